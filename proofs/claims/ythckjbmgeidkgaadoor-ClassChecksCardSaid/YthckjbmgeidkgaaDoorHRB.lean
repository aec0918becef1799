/- the document's rows: messages. -/
import Derived.Test.YthckjbmgeidkgaaDoorHRA
namespace Go.Proofs.YthckjbmgeidkgaaDoor.XA
set_option linter.unusedVariables false
set_option linter.unusedSimpArgs false
open Go.RowKit Go.WideMaps Go.Maps Go.Proofs.YthckjbmgeidkgaaDoorW.PrintWords Go.Proofs.YthckjbmgeidkgaaDoorW.PrintLast Go.Proofs.YthckjbmgeidkgaaDoorW.PrintMore
theorem neq58 (w : World) (x : S58) : (binOp .neq 58 (.agg #[.int .i64 x.f0, .int .i64 x.f1, .int .i64 x.f2, .string x.f3]) (.agg #[.int .i64 0, .int .i64 0, .int .i64 0, .string ⟨#[]⟩])).run Tryd.prog w = .ok (.bool (!zero58 x)) w := by
  rw [run_neq_struct, eqA58 9998 w x]
  rfl
theorem run_neq58 {o : Oper} {a : Act} (w : World) (s : S58) (x y : Operand) (ho : o.op = .binOp .neq 58 x y 58) (hx : a.eval x = .agg #[.int .i64 s.f0, .int .i64 s.f1, .int .i64 s.f2, .string s.f3]) (hy : a.eval y = .agg #[.int .i64 0, .int .i64 0, .int .i64 0, .string ⟨#[]⟩]) : (execOp a.eval o).run Tryd.prog w = .ok (.value (.bool (!zero58 s))) w := by
  have hg := run_eqGuard_agg (P := Tryd.prog) (w := w) .neq 58 x y #[.int .i64 s.f0, .int .i64 s.f1, .int .i64 s.f2, .string s.f3] #[.int .i64 0, .int .i64 0, .int .i64 0, .string ⟨#[]⟩] (by kernel_rfl)
  have hn := neq58 w s
  simp only [execOp, ho, hx, hy]
  simp [hg, hn, Result.andThen]
theorem box91 (w : World) (t : S91) : At91 (w.alloc (.cells #[.string t.f0, .int .i64 t.f1, .int .i64 t.f2, .int .i64 t.f3, .int .u64 t.f4, .int .i64 t.f5, .int .i64 t.f6.f0, .int .i64 t.f6.f1, .int .i64 t.f6.f2, .string t.f6.f3] 91)) ⟨w.heap.size, 0, none⟩ t := ⟨fun j v hj => box_at (cs := [.string t.f0, .int .i64 t.f1, .int .i64 t.f2, .int .i64 t.f3, .int .u64 t.f4, .int .i64 t.f5, .int .i64 t.f6.f0, .int .i64 t.f6.f1, .int .i64 t.f6.f2, .string t.f6.f3]) (e := 91) j v hj⟩
def kindM (ms : List S91) (f : Int) : Int := (ms.getD f.toNat z91).f1
set_option maxRecDepth 1000000 in
set_option maxHeartbeats 4000000 in
theorem message_calls : RChkN 76 (fun c => c.f9.length) (errF [eMsgVal, eMsgFrom, eMsgInit, eMsgAct]) := by
  intro w V c i h hnm hi
  have hz := (hnm.g _ (getD_mem (d := z91) hi)).2
  clear hnm
  have HS := Aside0.mk (At.made h)
  have HB := Aside0.mk (below_a w (.cells (arr V c) 33))
  have HE := Aside0.mk (show errF [eMsgVal, eMsgFrom, eMsgInit, eMsgAct] c i = if msgVal (c.f9.getD i z91) = false then 74 else if (c.f9.getD i z91).f1 = 1 then (if zero58 (c.f9.getD i z91).f6 then 0 else 74) else if msgFrom c.f9 (c.f9.getD i z91) = false then 73 else if initB (c.f9.getD (c.f9.getD i z91).f3.toNat z91).f2 (c.f9.getD i z91).f4 = false then 74 else actV c (c.f9.getD i z91).f6.f0 (c.f9.getD i z91).f6.f1 (c.f9.getD i z91).f6.f2 (c.f9.getD i z91).f6.f3 0 4 from by
    unfold errF errF errF errF errF eMsgVal eMsgFrom eMsgInit eMsgAct eAct
    by_cases h1 : (c.f9.getD i z91).f1 = 1
    · rw [if_pos h1, if_pos h1, if_pos h1]
      have hf : msgFrom c.f9 (c.f9.getD i z91) = true := by
        unfold msgFrom
        rw [beq_iff_eq.mpr h1]
        rfl
      rw [hf]
      cases msgVal (c.f9.getD i z91) <;> cases zero58 (c.f9.getD i z91).f6 <;> rfl
    · rw [if_neg h1, if_neg h1, if_neg h1]
      generalize actV c (c.f9.getD i z91).f6.f0 (c.f9.getD i z91).f6.f1 (c.f9.getD i z91).f6.f2 (c.f9.getD i z91).f6.f3 0 4 = av
      cases msgVal (c.f9.getD i z91) <;> cases msgFrom c.f9 (c.f9.getD i z91) <;> cases initB (c.f9.getD (c.f9.getD i z91).f3.toNat z91).f2 (c.f9.getD i z91).f4 <;> simp <;> omega)
  clear h
  go_enter Tryd.func76, Tryd.ntmps76
  unfold arr at *
  go_upto_region 1 with fail
  generalize w.alloc (.cells #[.string c.f0, .string c.f1.f0, .bool c.f1.f1, .bool c.f1.f2, .bool c.f1.f3, .bool c.f1.f4, .bool c.f1.f5, .bool c.f1.f6, .bool c.f1.f7, .bool c.f1.f8, .slice V.a10 c.f2.length V.k10, .slice V.a11 c.f3.length V.k11, .slice V.a12 c.f4.length V.k12, .slice V.a13 c.f5.length V.k13, .slice V.a14 c.f6.length V.k14, .slice V.a15 c.f7.length V.k15, .slice V.a16 c.f8.length V.k16, .slice V.a17 c.f9.length V.k17] 33) = w1 at *
  obtain ⟨t, ad, ht, e, HA⟩ := msg_at HS.out.cf.g i hi
  have q17 := HS.out.cell17
  rw [e] at q17
  rw [ht] at HE hz
  have hz : t.f6.f3.size ≤ 9223372036854775807 := by omega
  have HAX := Aside0.mk HA
  have HX := Aside0.mk (box91 w1 t)
  have B1 := below_a w1 (.cells #[.string t.f0, .int .i64 t.f1, .int .i64 t.f2, .int .i64 t.f3, .int .u64 t.f4, .int .i64 t.f5, .int .i64 t.f6.f0, .int .i64 t.f6.f1, .int .i64 t.f6.f2, .string t.f6.f3] 91)
  replace HB := Aside0.mk (HB.out.trans (B1.mono HB.out.size))
  replace HS := Aside0.mk (HS.out.below B1)
  have HEE := Aside0.mk e
  clear ht HA e B1
  go_upto_region 2 with (first | (refine load91 HAX.out rfl (.tmp 10) rfl rfl ?_) | (refine store91 (by rfl) #[.string t.f0, .int .i64 t.f1, .int .i64 t.f2, .int .i64 t.f3, .int .u64 t.f4, .int .i64 t.f5, .int .i64 t.f6.f0, .int .i64 t.f6.f1, .int .i64 t.f6.f2, .string t.f6.f3] (by rfl) (by simp [Value.oneCell']) (by rfl) (.tmp 5) (.tmp 11) (by rfl) (by rfl) (by rfl) ?_))
  clear q17 HAX
  generalize w1.alloc (.cells #[.string t.f0, .int .i64 t.f1, .int .i64 t.f2, .int .i64 t.f3, .int .u64 t.f4, .int .i64 t.f5, .int .i64 t.f6.f0, .int .i64 t.f6.f1, .int .i64 t.f6.f2, .string t.f6.f3] 91) = w2 at *
  generalize w1.heap.size = P at *
  have g1 := HX.out.g1
  have g2 := HX.out.g2
  have g3 := HX.out.g3
  have g4 := HX.out.g4
  have g5 := HX.out.g5
  have g6 := HX.out.g6
  have g7 := HX.out.g7
  have g8 := HX.out.g8
  have g9 := HX.out.g9
  have q17 := HS.out.cell17
  rw [HEE.out] at q17
  by_cases h1 : t.f1 < 1
  · have P1 := Aside0.mk h1
    have b1 : decide (t.f1 < 1) = true := decide_eq_true h1
    clear h1
    have HK := Aside0.mk (show errF [eMsgVal, eMsgFrom, eMsgInit, eMsgAct] c i = 74 from by have h1 := P1.out; have hmv : msgVal t = false := (by have n1 : ¬ t.f1 = 1 := (by omega); have n2 : ¬ t.f1 = 2 := (by omega); have n3 : ¬ t.f1 = 3 := (by omega); unfold msgVal; rw [if_neg n1, if_neg n2, if_neg n3]); rw [HE.out, if_pos hmv])
    go_wp2_with fail
    go_ret
    exact ⟨by rw [HK.out] <;> rfl, HB.out⟩
  · have P1 := Aside0.mk h1
    have b1 : decide (t.f1 < 1) = false := decide_eq_false h1
    clear h1
    by_cases h2 : 3 < t.f1
    · have P2 := Aside0.mk h2
      have b2 : decide (3 < t.f1) = true := decide_eq_true h2
      clear h2
      have HK := Aside0.mk (show errF [eMsgVal, eMsgFrom, eMsgInit, eMsgAct] c i = 74 from by have h1 := P1.out; have h2 := P2.out; have hmv : msgVal t = false := (by have n1 : ¬ t.f1 = 1 := (by omega); have n2 : ¬ t.f1 = 2 := (by omega); have n3 : ¬ t.f1 = 3 := (by omega); unfold msgVal; rw [if_neg n1, if_neg n2, if_neg n3]); rw [HE.out, if_pos hmv])
      go_wp2_with fail
      go_ret
      exact ⟨by rw [HK.out] <;> rfl, HB.out⟩
    · have P2 := Aside0.mk h2
      have b2 : decide (3 < t.f1) = false := decide_eq_false h2
      clear h2
      by_cases h3 : t.f1 = 1
      · have P3 := Aside0.mk h3
        have b3 : (t.f1 == 1) = true := by rw [beq_iff_eq]; exact h3
        have b3x : (t.f1 != 1) = false := by rw [bne_eq_false_iff_eq]; exact h3
        clear h3
        by_cases h4 : t.f2 = 1
        · have P4 := Aside0.mk h4
          have b4 : (t.f2 == 1) = true := by rw [beq_iff_eq]; exact h4
          have b4x : (t.f2 != 1) = false := by rw [bne_eq_false_iff_eq]; exact h4
          clear h4
          by_cases h5 : t.f3 = 0
          · have P5 := Aside0.mk h5
            have b5 : (t.f3 == 0) = true := by rw [beq_iff_eq]; exact h5
            have b5x : (t.f3 != 0) = false := by rw [bne_eq_false_iff_eq]; exact h5
            clear h5
            by_cases h6 : t.f4 = 0
            · have P6 := Aside0.mk h6
              have b6 : (t.f4 == 0) = true := by rw [beq_iff_eq]; exact h6
              have b6x : (t.f4 != 0) = false := by rw [bne_eq_false_iff_eq]; exact h6
              clear h6
              by_cases h7 : t.f5 = 0
              · have P7 := Aside0.mk h7
                have b7 : (t.f5 == 0) = true := by rw [beq_iff_eq]; exact h7
                have b7x : (t.f5 != 0) = false := by rw [bne_eq_false_iff_eq]; exact h7
                clear h7
                rcases h8 : zero58 t.f6 with _ | _
                · have P8 := Aside0.mk h8
                  have b8 := h8
                  clear h8
                  have HK := Aside0.mk (show errF [eMsgVal, eMsgFrom, eMsgInit, eMsgAct] c i = 74 from by have h1 := P1.out; have h2 := P2.out; have h3 := P3.out; have h4 := P4.out; have h5 := P5.out; have h6 := P6.out; have h7 := P7.out; have h8 := P8.out; rw [HE.out]; simp [msgVal, h1, h2, h3, h4, h5, h6, h7, h8] <;> first | omega | (intros; omega))
                  go_wp2_with (first | ((with_reducible refine gate_dst (N := 60) rfl ?_); (refine gate_guard (by rfl) ?_; dsimp only); refine Kd.event_run rfl (v := .bool (!zero58 t.f6)) (run_neq58 _ t.f6 (.tmp 58) (.tmp 59) rfl rfl rfl) ?_))
                  go_ret
                  exact ⟨by rw [HK.out] <;> rfl, HB.out⟩
                · have P8 := Aside0.mk h8
                  have b8 := h8
                  clear h8
                  have HK := Aside0.mk (show errF [eMsgVal, eMsgFrom, eMsgInit, eMsgAct] c i = 0 from by have h1 := P1.out; have h2 := P2.out; have h3 := P3.out; have h4 := P4.out; have h5 := P5.out; have h6 := P6.out; have h7 := P7.out; have h8 := P8.out; rw [HE.out]; simp [msgVal, h1, h2, h3, h4, h5, h6, h7, h8] <;> first | omega | (intros; omega))
                  go_wp2_with (first | ((with_reducible refine gate_dst (N := 60) rfl ?_); (refine gate_guard (by rfl) ?_; dsimp only); refine Kd.event_run rfl (v := .bool (!zero58 t.f6)) (run_neq58 _ t.f6 (.tmp 58) (.tmp 59) rfl rfl rfl) ?_))
                  go_ret
                  exact ⟨by rw [HK.out] <;> rfl, HB.out⟩
              · have P7 := Aside0.mk h7
                have b7 : (t.f5 == 0) = false := by rw [beq_eq_false_iff_ne]; exact h7
                have b7x : (t.f5 != 0) = true := by rw [bne_iff_ne]; exact h7
                clear h7
                have HK := Aside0.mk (show errF [eMsgVal, eMsgFrom, eMsgInit, eMsgAct] c i = 74 from by have h1 := P1.out; have h2 := P2.out; have h3 := P3.out; have h4 := P4.out; have h5 := P5.out; have h6 := P6.out; have h7 := P7.out; rw [HE.out]; simp [msgVal, h1, h2, h3, h4, h5, h6, h7] <;> first | omega | (intros; omega))
                go_wp2_with fail
                go_ret
                exact ⟨by rw [HK.out] <;> rfl, HB.out⟩
            · have P6 := Aside0.mk h6
              have b6 : (t.f4 == 0) = false := by rw [beq_eq_false_iff_ne]; exact h6
              have b6x : (t.f4 != 0) = true := by rw [bne_iff_ne]; exact h6
              clear h6
              have HK := Aside0.mk (show errF [eMsgVal, eMsgFrom, eMsgInit, eMsgAct] c i = 74 from by have h1 := P1.out; have h2 := P2.out; have h3 := P3.out; have h4 := P4.out; have h5 := P5.out; have h6 := P6.out; rw [HE.out]; simp [msgVal, h1, h2, h3, h4, h5, h6] <;> first | omega | (intros; omega))
              go_wp2_with fail
              go_ret
              exact ⟨by rw [HK.out] <;> rfl, HB.out⟩
          · have P5 := Aside0.mk h5
            have b5 : (t.f3 == 0) = false := by rw [beq_eq_false_iff_ne]; exact h5
            have b5x : (t.f3 != 0) = true := by rw [bne_iff_ne]; exact h5
            clear h5
            have HK := Aside0.mk (show errF [eMsgVal, eMsgFrom, eMsgInit, eMsgAct] c i = 74 from by have h1 := P1.out; have h2 := P2.out; have h3 := P3.out; have h4 := P4.out; have h5 := P5.out; rw [HE.out]; simp [msgVal, h1, h2, h3, h4, h5] <;> first | omega | (intros; omega))
            go_wp2_with fail
            go_ret
            exact ⟨by rw [HK.out] <;> rfl, HB.out⟩
        · have P4 := Aside0.mk h4
          have b4 : (t.f2 == 1) = false := by rw [beq_eq_false_iff_ne]; exact h4
          have b4x : (t.f2 != 1) = true := by rw [bne_iff_ne]; exact h4
          clear h4
          by_cases h9 : t.f2 = 2
          · have P9 := Aside0.mk h9
            have b9 : (t.f2 == 2) = true := by rw [beq_iff_eq]; exact h9
            have b9x : (t.f2 != 2) = false := by rw [bne_eq_false_iff_eq]; exact h9
            clear h9
            by_cases h10 : t.f3 = 0
            · have P10 := Aside0.mk h10
              have b10 : (t.f3 == 0) = true := by rw [beq_iff_eq]; exact h10
              have b10x : (t.f3 != 0) = false := by rw [bne_eq_false_iff_eq]; exact h10
              clear h10
              by_cases h11 : t.f4 = 0
              · have P11 := Aside0.mk h11
                have b11 : (t.f4 == 0) = true := by rw [beq_iff_eq]; exact h11
                have b11x : (t.f4 != 0) = false := by rw [bne_eq_false_iff_eq]; exact h11
                clear h11
                by_cases h12 : t.f5 = 0
                · have P12 := Aside0.mk h12
                  have b12 : (t.f5 == 0) = true := by rw [beq_iff_eq]; exact h12
                  have b12x : (t.f5 != 0) = false := by rw [bne_eq_false_iff_eq]; exact h12
                  clear h12
                  rcases h13 : zero58 t.f6 with _ | _
                  · have P13 := Aside0.mk h13
                    have b13 := h13
                    clear h13
                    have HK := Aside0.mk (show errF [eMsgVal, eMsgFrom, eMsgInit, eMsgAct] c i = 74 from by have h1 := P1.out; have h2 := P2.out; have h3 := P3.out; have h4 := P4.out; have h9 := P9.out; have h10 := P10.out; have h11 := P11.out; have h12 := P12.out; have h13 := P13.out; rw [HE.out]; simp [msgVal, h1, h2, h3, h4, h9, h10, h11, h12, h13] <;> first | omega | (intros; omega))
                    go_wp2_with (first | ((with_reducible refine gate_dst (N := 60) rfl ?_); (refine gate_guard (by rfl) ?_; dsimp only); refine Kd.event_run rfl (v := .bool (!zero58 t.f6)) (run_neq58 _ t.f6 (.tmp 58) (.tmp 59) rfl rfl rfl) ?_))
                    go_ret
                    exact ⟨by rw [HK.out] <;> rfl, HB.out⟩
                  · have P13 := Aside0.mk h13
                    have b13 := h13
                    clear h13
                    have HK := Aside0.mk (show errF [eMsgVal, eMsgFrom, eMsgInit, eMsgAct] c i = 0 from by have h1 := P1.out; have h2 := P2.out; have h3 := P3.out; have h4 := P4.out; have h9 := P9.out; have h10 := P10.out; have h11 := P11.out; have h12 := P12.out; have h13 := P13.out; rw [HE.out]; simp [msgVal, h1, h2, h3, h4, h9, h10, h11, h12, h13] <;> first | omega | (intros; omega))
                    go_wp2_with (first | ((with_reducible refine gate_dst (N := 60) rfl ?_); (refine gate_guard (by rfl) ?_; dsimp only); refine Kd.event_run rfl (v := .bool (!zero58 t.f6)) (run_neq58 _ t.f6 (.tmp 58) (.tmp 59) rfl rfl rfl) ?_))
                    go_ret
                    exact ⟨by rw [HK.out] <;> rfl, HB.out⟩
                · have P12 := Aside0.mk h12
                  have b12 : (t.f5 == 0) = false := by rw [beq_eq_false_iff_ne]; exact h12
                  have b12x : (t.f5 != 0) = true := by rw [bne_iff_ne]; exact h12
                  clear h12
                  have HK := Aside0.mk (show errF [eMsgVal, eMsgFrom, eMsgInit, eMsgAct] c i = 74 from by have h1 := P1.out; have h2 := P2.out; have h3 := P3.out; have h4 := P4.out; have h9 := P9.out; have h10 := P10.out; have h11 := P11.out; have h12 := P12.out; rw [HE.out]; simp [msgVal, h1, h2, h3, h4, h9, h10, h11, h12] <;> first | omega | (intros; omega))
                  go_wp2_with fail
                  go_ret
                  exact ⟨by rw [HK.out] <;> rfl, HB.out⟩
              · have P11 := Aside0.mk h11
                have b11 : (t.f4 == 0) = false := by rw [beq_eq_false_iff_ne]; exact h11
                have b11x : (t.f4 != 0) = true := by rw [bne_iff_ne]; exact h11
                clear h11
                have HK := Aside0.mk (show errF [eMsgVal, eMsgFrom, eMsgInit, eMsgAct] c i = 74 from by have h1 := P1.out; have h2 := P2.out; have h3 := P3.out; have h4 := P4.out; have h9 := P9.out; have h10 := P10.out; have h11 := P11.out; rw [HE.out]; simp [msgVal, h1, h2, h3, h4, h9, h10, h11] <;> first | omega | (intros; omega))
                go_wp2_with fail
                go_ret
                exact ⟨by rw [HK.out] <;> rfl, HB.out⟩
            · have P10 := Aside0.mk h10
              have b10 : (t.f3 == 0) = false := by rw [beq_eq_false_iff_ne]; exact h10
              have b10x : (t.f3 != 0) = true := by rw [bne_iff_ne]; exact h10
              clear h10
              have HK := Aside0.mk (show errF [eMsgVal, eMsgFrom, eMsgInit, eMsgAct] c i = 74 from by have h1 := P1.out; have h2 := P2.out; have h3 := P3.out; have h4 := P4.out; have h9 := P9.out; have h10 := P10.out; rw [HE.out]; simp [msgVal, h1, h2, h3, h4, h9, h10] <;> first | omega | (intros; omega))
              go_wp2_with fail
              go_ret
              exact ⟨by rw [HK.out] <;> rfl, HB.out⟩
          · have P9 := Aside0.mk h9
            have b9 : (t.f2 == 2) = false := by rw [beq_eq_false_iff_ne]; exact h9
            have b9x : (t.f2 != 2) = true := by rw [bne_iff_ne]; exact h9
            clear h9
            by_cases h14 : t.f2 = 4
            · have P14 := Aside0.mk h14
              have b14 : (t.f2 == 4) = true := by rw [beq_iff_eq]; exact h14
              have b14x : (t.f2 != 4) = false := by rw [bne_eq_false_iff_eq]; exact h14
              clear h14
              by_cases h15 : t.f3 = 0
              · have P15 := Aside0.mk h15
                have b15 : (t.f3 == 0) = true := by rw [beq_iff_eq]; exact h15
                have b15x : (t.f3 != 0) = false := by rw [bne_eq_false_iff_eq]; exact h15
                clear h15
                by_cases h16 : t.f4 = 0
                · have P16 := Aside0.mk h16
                  have b16 : (t.f4 == 0) = true := by rw [beq_iff_eq]; exact h16
                  have b16x : (t.f4 != 0) = false := by rw [bne_eq_false_iff_eq]; exact h16
                  clear h16
                  by_cases h17 : t.f5 = 0
                  · have P17 := Aside0.mk h17
                    have b17 : (t.f5 == 0) = true := by rw [beq_iff_eq]; exact h17
                    have b17x : (t.f5 != 0) = false := by rw [bne_eq_false_iff_eq]; exact h17
                    clear h17
                    rcases h18 : zero58 t.f6 with _ | _
                    · have P18 := Aside0.mk h18
                      have b18 := h18
                      clear h18
                      have HK := Aside0.mk (show errF [eMsgVal, eMsgFrom, eMsgInit, eMsgAct] c i = 74 from by have h1 := P1.out; have h2 := P2.out; have h3 := P3.out; have h4 := P4.out; have h9 := P9.out; have h14 := P14.out; have h15 := P15.out; have h16 := P16.out; have h17 := P17.out; have h18 := P18.out; rw [HE.out]; simp [msgVal, h1, h2, h3, h4, h9, h14, h15, h16, h17, h18] <;> first | omega | (intros; omega))
                      go_wp2_with (first | ((with_reducible refine gate_dst (N := 60) rfl ?_); (refine gate_guard (by rfl) ?_; dsimp only); refine Kd.event_run rfl (v := .bool (!zero58 t.f6)) (run_neq58 _ t.f6 (.tmp 58) (.tmp 59) rfl rfl rfl) ?_))
                      go_ret
                      exact ⟨by rw [HK.out] <;> rfl, HB.out⟩
                    · have P18 := Aside0.mk h18
                      have b18 := h18
                      clear h18
                      have HK := Aside0.mk (show errF [eMsgVal, eMsgFrom, eMsgInit, eMsgAct] c i = 0 from by have h1 := P1.out; have h2 := P2.out; have h3 := P3.out; have h4 := P4.out; have h9 := P9.out; have h14 := P14.out; have h15 := P15.out; have h16 := P16.out; have h17 := P17.out; have h18 := P18.out; rw [HE.out]; simp [msgVal, h1, h2, h3, h4, h9, h14, h15, h16, h17, h18] <;> first | omega | (intros; omega))
                      go_wp2_with (first | ((with_reducible refine gate_dst (N := 60) rfl ?_); (refine gate_guard (by rfl) ?_; dsimp only); refine Kd.event_run rfl (v := .bool (!zero58 t.f6)) (run_neq58 _ t.f6 (.tmp 58) (.tmp 59) rfl rfl rfl) ?_))
                      go_ret
                      exact ⟨by rw [HK.out] <;> rfl, HB.out⟩
                  · have P17 := Aside0.mk h17
                    have b17 : (t.f5 == 0) = false := by rw [beq_eq_false_iff_ne]; exact h17
                    have b17x : (t.f5 != 0) = true := by rw [bne_iff_ne]; exact h17
                    clear h17
                    have HK := Aside0.mk (show errF [eMsgVal, eMsgFrom, eMsgInit, eMsgAct] c i = 74 from by have h1 := P1.out; have h2 := P2.out; have h3 := P3.out; have h4 := P4.out; have h9 := P9.out; have h14 := P14.out; have h15 := P15.out; have h16 := P16.out; have h17 := P17.out; rw [HE.out]; simp [msgVal, h1, h2, h3, h4, h9, h14, h15, h16, h17] <;> first | omega | (intros; omega))
                    go_wp2_with fail
                    go_ret
                    exact ⟨by rw [HK.out] <;> rfl, HB.out⟩
                · have P16 := Aside0.mk h16
                  have b16 : (t.f4 == 0) = false := by rw [beq_eq_false_iff_ne]; exact h16
                  have b16x : (t.f4 != 0) = true := by rw [bne_iff_ne]; exact h16
                  clear h16
                  have HK := Aside0.mk (show errF [eMsgVal, eMsgFrom, eMsgInit, eMsgAct] c i = 74 from by have h1 := P1.out; have h2 := P2.out; have h3 := P3.out; have h4 := P4.out; have h9 := P9.out; have h14 := P14.out; have h15 := P15.out; have h16 := P16.out; rw [HE.out]; simp [msgVal, h1, h2, h3, h4, h9, h14, h15, h16] <;> first | omega | (intros; omega))
                  go_wp2_with fail
                  go_ret
                  exact ⟨by rw [HK.out] <;> rfl, HB.out⟩
              · have P15 := Aside0.mk h15
                have b15 : (t.f3 == 0) = false := by rw [beq_eq_false_iff_ne]; exact h15
                have b15x : (t.f3 != 0) = true := by rw [bne_iff_ne]; exact h15
                clear h15
                have HK := Aside0.mk (show errF [eMsgVal, eMsgFrom, eMsgInit, eMsgAct] c i = 74 from by have h1 := P1.out; have h2 := P2.out; have h3 := P3.out; have h4 := P4.out; have h9 := P9.out; have h14 := P14.out; have h15 := P15.out; rw [HE.out]; simp [msgVal, h1, h2, h3, h4, h9, h14, h15] <;> first | omega | (intros; omega))
                go_wp2_with fail
                go_ret
                exact ⟨by rw [HK.out] <;> rfl, HB.out⟩
            · have P14 := Aside0.mk h14
              have b14 : (t.f2 == 4) = false := by rw [beq_eq_false_iff_ne]; exact h14
              have b14x : (t.f2 != 4) = true := by rw [bne_iff_ne]; exact h14
              clear h14
              by_cases h19 : t.f2 = 8
              · have P19 := Aside0.mk h19
                have b19 : (t.f2 == 8) = true := by rw [beq_iff_eq]; exact h19
                have b19x : (t.f2 != 8) = false := by rw [bne_eq_false_iff_eq]; exact h19
                clear h19
                by_cases h20 : t.f3 = 0
                · have P20 := Aside0.mk h20
                  have b20 : (t.f3 == 0) = true := by rw [beq_iff_eq]; exact h20
                  have b20x : (t.f3 != 0) = false := by rw [bne_eq_false_iff_eq]; exact h20
                  clear h20
                  by_cases h21 : t.f4 = 0
                  · have P21 := Aside0.mk h21
                    have b21 : (t.f4 == 0) = true := by rw [beq_iff_eq]; exact h21
                    have b21x : (t.f4 != 0) = false := by rw [bne_eq_false_iff_eq]; exact h21
                    clear h21
                    by_cases h22 : t.f5 = 0
                    · have P22 := Aside0.mk h22
                      have b22 : (t.f5 == 0) = true := by rw [beq_iff_eq]; exact h22
                      have b22x : (t.f5 != 0) = false := by rw [bne_eq_false_iff_eq]; exact h22
                      clear h22
                      rcases h23 : zero58 t.f6 with _ | _
                      · have P23 := Aside0.mk h23
                        have b23 := h23
                        clear h23
                        have HK := Aside0.mk (show errF [eMsgVal, eMsgFrom, eMsgInit, eMsgAct] c i = 74 from by have h1 := P1.out; have h2 := P2.out; have h3 := P3.out; have h4 := P4.out; have h9 := P9.out; have h14 := P14.out; have h19 := P19.out; have h20 := P20.out; have h21 := P21.out; have h22 := P22.out; have h23 := P23.out; rw [HE.out]; simp [msgVal, h1, h2, h3, h4, h9, h14, h19, h20, h21, h22, h23] <;> first | omega | (intros; omega))
                        go_wp2_with (first | ((with_reducible refine gate_dst (N := 60) rfl ?_); (refine gate_guard (by rfl) ?_; dsimp only); refine Kd.event_run rfl (v := .bool (!zero58 t.f6)) (run_neq58 _ t.f6 (.tmp 58) (.tmp 59) rfl rfl rfl) ?_))
                        go_ret
                        exact ⟨by rw [HK.out] <;> rfl, HB.out⟩
                      · have P23 := Aside0.mk h23
                        have b23 := h23
                        clear h23
                        have HK := Aside0.mk (show errF [eMsgVal, eMsgFrom, eMsgInit, eMsgAct] c i = 0 from by have h1 := P1.out; have h2 := P2.out; have h3 := P3.out; have h4 := P4.out; have h9 := P9.out; have h14 := P14.out; have h19 := P19.out; have h20 := P20.out; have h21 := P21.out; have h22 := P22.out; have h23 := P23.out; rw [HE.out]; simp [msgVal, h1, h2, h3, h4, h9, h14, h19, h20, h21, h22, h23] <;> first | omega | (intros; omega))
                        go_wp2_with (first | ((with_reducible refine gate_dst (N := 60) rfl ?_); (refine gate_guard (by rfl) ?_; dsimp only); refine Kd.event_run rfl (v := .bool (!zero58 t.f6)) (run_neq58 _ t.f6 (.tmp 58) (.tmp 59) rfl rfl rfl) ?_))
                        go_ret
                        exact ⟨by rw [HK.out] <;> rfl, HB.out⟩
                    · have P22 := Aside0.mk h22
                      have b22 : (t.f5 == 0) = false := by rw [beq_eq_false_iff_ne]; exact h22
                      have b22x : (t.f5 != 0) = true := by rw [bne_iff_ne]; exact h22
                      clear h22
                      have HK := Aside0.mk (show errF [eMsgVal, eMsgFrom, eMsgInit, eMsgAct] c i = 74 from by have h1 := P1.out; have h2 := P2.out; have h3 := P3.out; have h4 := P4.out; have h9 := P9.out; have h14 := P14.out; have h19 := P19.out; have h20 := P20.out; have h21 := P21.out; have h22 := P22.out; rw [HE.out]; simp [msgVal, h1, h2, h3, h4, h9, h14, h19, h20, h21, h22] <;> first | omega | (intros; omega))
                      go_wp2_with fail
                      go_ret
                      exact ⟨by rw [HK.out] <;> rfl, HB.out⟩
                  · have P21 := Aside0.mk h21
                    have b21 : (t.f4 == 0) = false := by rw [beq_eq_false_iff_ne]; exact h21
                    have b21x : (t.f4 != 0) = true := by rw [bne_iff_ne]; exact h21
                    clear h21
                    have HK := Aside0.mk (show errF [eMsgVal, eMsgFrom, eMsgInit, eMsgAct] c i = 74 from by have h1 := P1.out; have h2 := P2.out; have h3 := P3.out; have h4 := P4.out; have h9 := P9.out; have h14 := P14.out; have h19 := P19.out; have h20 := P20.out; have h21 := P21.out; rw [HE.out]; simp [msgVal, h1, h2, h3, h4, h9, h14, h19, h20, h21] <;> first | omega | (intros; omega))
                    go_wp2_with fail
                    go_ret
                    exact ⟨by rw [HK.out] <;> rfl, HB.out⟩
                · have P20 := Aside0.mk h20
                  have b20 : (t.f3 == 0) = false := by rw [beq_eq_false_iff_ne]; exact h20
                  have b20x : (t.f3 != 0) = true := by rw [bne_iff_ne]; exact h20
                  clear h20
                  have HK := Aside0.mk (show errF [eMsgVal, eMsgFrom, eMsgInit, eMsgAct] c i = 74 from by have h1 := P1.out; have h2 := P2.out; have h3 := P3.out; have h4 := P4.out; have h9 := P9.out; have h14 := P14.out; have h19 := P19.out; have h20 := P20.out; rw [HE.out]; simp [msgVal, h1, h2, h3, h4, h9, h14, h19, h20] <;> first | omega | (intros; omega))
                  go_wp2_with fail
                  go_ret
                  exact ⟨by rw [HK.out] <;> rfl, HB.out⟩
              · have P19 := Aside0.mk h19
                have b19 : (t.f2 == 8) = false := by rw [beq_eq_false_iff_ne]; exact h19
                have b19x : (t.f2 != 8) = true := by rw [bne_iff_ne]; exact h19
                clear h19
                have HK := Aside0.mk (show errF [eMsgVal, eMsgFrom, eMsgInit, eMsgAct] c i = 74 from by have h1 := P1.out; have h2 := P2.out; have h3 := P3.out; have h4 := P4.out; have h9 := P9.out; have h14 := P14.out; have h19 := P19.out; rw [HE.out]; simp [msgVal, h1, h2, h3, h4, h9, h14, h19] <;> first | omega | (intros; omega))
                go_wp2_with fail
                go_ret
                exact ⟨by rw [HK.out] <;> rfl, HB.out⟩
      · have P3 := Aside0.mk h3
        have b3 : (t.f1 == 1) = false := by rw [beq_eq_false_iff_ne]; exact h3
        have b3x : (t.f1 != 1) = true := by rw [bne_iff_ne]; exact h3
        clear h3
        by_cases h24 : t.f2 = 0
        · have P24 := Aside0.mk h24
          have b24 : (t.f2 == 0) = true := by rw [beq_iff_eq]; exact h24
          have b24x : (t.f2 != 0) = false := by rw [bne_eq_false_iff_eq]; exact h24
          clear h24
          by_cases h25 : t.f1 = 2
          · have P25 := Aside0.mk h25
            have b25 : (t.f1 == 2) = true := by rw [beq_iff_eq]; exact h25
            have b25x : (t.f1 == 3) = false := by rw [beq_eq_false_iff_ne]; omega
            clear h25
            by_cases h26 : t.f5 = 0
            · have P26 := Aside0.mk h26
              have b26 : (t.f5 == 0) = true := by rw [beq_iff_eq]; exact h26
              have b26x : (t.f5 != 0) = false := by rw [bne_eq_false_iff_eq]; exact h26
              clear h26
              by_cases h27 : t.f3 < 0
              · have P27 := Aside0.mk h27
                have b27 : decide (t.f3 < 0) = true := decide_eq_true h27
                clear h27
                have HK := Aside0.mk (show errF [eMsgVal, eMsgFrom, eMsgInit, eMsgAct] c i = 73 from by have h1 := P1.out; have h2 := P2.out; have h3 := P3.out; have h24 := P24.out; have h25 := P25.out; have h26 := P26.out; have h27 := P27.out; rw [HE.out]; simp [msgVal, msgFrom, h1, h2, h3, h24, h25, h26, h27] <;> first | omega | (intros; omega))
                go_wp2_with fail
                go_ret
                exact ⟨by rw [HK.out] <;> rfl, HB.out⟩
              · have P27 := Aside0.mk h27
                have b27 : decide (t.f3 < 0) = false := decide_eq_false h27
                clear h27
                by_cases h28 : (c.f9.length : Int) ≤ t.f3
                · have P28 := Aside0.mk h28
                  have b28 : decide ((c.f9.length : Int) ≤ t.f3) = true := decide_eq_true h28
                  clear h28
                  have HK := Aside0.mk (show errF [eMsgVal, eMsgFrom, eMsgInit, eMsgAct] c i = 73 from by have h1 := P1.out; have h2 := P2.out; have h3 := P3.out; have h24 := P24.out; have h25 := P25.out; have h26 := P26.out; have h27 := P27.out; have h28 := P28.out; rw [HE.out]; simp [msgVal, msgFrom, h1, h2, h3, h24, h25, h26, h27, h28] <;> first | omega | (intros; omega))
                  go_wp2_with fail
                  go_ret
                  exact ⟨by rw [HK.out] <;> rfl, HB.out⟩
                · have P28 := Aside0.mk h28
                  have b28 : decide ((c.f9.length : Int) ≤ t.f3) = false := decide_eq_false h28
                  clear h28
                  obtain ⟨p, hp⟩ : ∃ p : Nat, t.f3 = p := ⟨t.f3.toNat, by have h1 := P1.out; have h2 := P2.out; have h3 := P3.out; have h24 := P24.out; have h25 := P25.out; have h26 := P26.out; have h27 := P27.out; have h28 := P28.out; omega⟩
                  have hpl : p < c.f9.length := by have h1 := P1.out; have h2 := P2.out; have h3 := P3.out; have h24 := P24.out; have h25 := P25.out; have h26 := P26.out; have h27 := P27.out; have h28 := P28.out; omega
                  obtain ⟨u, ad2, hu, e2, HA2⟩ := msg_at HS.out.cf.g p hpl
                  obtain rfl : ad2 = ad := by have e3 := HEE.out.symm.trans e2; injection e3 with e3; exact e3.symm
                  have k1 := HA2.g1
                  have k2 := HA2.g2
                  rw [hp] at g3
                  have HU := Aside0.mk (show c.f9.getD t.f3.toNat z91 = u from by rw [hp, Int.toNat_natCast]; exact hu)
                  have HP := Aside0.mk hp
                  have hmv : msgVal t = true := by have h1 := P1.out; have h2 := P2.out; have h3 := P3.out; have h24 := P24.out; have h25 := P25.out; have h26 := P26.out; have h27 := P27.out; have h28 := P28.out; simp [msgVal, h1, h2, h3, h24, h25, h26, h27, h28] <;> first | omega | (intros; omega)
                  have h1n : ¬ t.f1 = 1 := by have h1 := P1.out; have h2 := P2.out; have h3 := P3.out; have h24 := P24.out; have h25 := P25.out; have h26 := P26.out; have h27 := P27.out; have h28 := P28.out; omega
                  have hmf : msgFrom c.f9 t = (u.f1 == 1) := by have h1 := P1.out; have h2 := P2.out; have h3 := P3.out; have h24 := P24.out; have h25 := P25.out; have h26 := P26.out; have h27 := P27.out; have h28 := P28.out; unfold msgFrom; rw [HU.out, beq_eq_false_iff_ne.mpr h1n, decide_eq_true (show 0 ≤ t.f3 by omega), decide_eq_true (show t.f3 < (c.f9.length : Int) by omega)]; rfl
                  rw [hmv, hmf, HU.out, if_neg (by simp), if_neg h1n] at HE
                  clear hu e2 HA2 hp hmv h1n hmf
                  by_cases h29 : u.f1 = 1
                  · have P29 := Aside0.mk h29
                    have b29 : (u.f1 == 1) = true := by rw [beq_iff_eq]; exact h29
                    have b29x : (u.f1 != 1) = false := by rw [bne_eq_false_iff_eq]; exact h29
                    clear h29
                    by_cases h30 : 4294967295 < t.f4
                    · have P30 := Aside0.mk h30
                      have b30 : decide (4294967295 < t.f4) = true := decide_eq_true h30
                      clear h30
                      have HK := Aside0.mk (show errF [eMsgVal, eMsgFrom, eMsgInit, eMsgAct] c i = 74 from by have h1 := P1.out; have h2 := P2.out; have h3 := P3.out; have h24 := P24.out; have h25 := P25.out; have h26 := P26.out; have h27 := P27.out; have h28 := P28.out; have h29 := P29.out; have h30 := P30.out; rw [HE.out]; simp [initB, h1, h2, h3, h24, h25, h26, h27, h28, h29, h30] <;> first | omega | (intros; omega))
                      go_wp2_with fail
                      go_ret
                      exact ⟨by rw [HK.out] <;> rfl, HB.out⟩
                    · have P30 := Aside0.mk h30
                      have b30 : decide (4294967295 < t.f4) = false := decide_eq_false h30
                      clear h30
                      by_cases h31 : u.f2 < 8
                      · have P31 := Aside0.mk h31
                        have b31 : decide (u.f2 < 8) = true := decide_eq_true h31
                        clear h31
                        by_cases h32 : 0 ≤ u.f2
                        · have P32 := Aside0.mk h32
                          have b32 : decide (0 ≤ u.f2) = true := decide_eq_true h32
                          clear h32
                          obtain ⟨m, hm⟩ : ∃ m : Nat, u.f2 = m := ⟨u.f2.toNat, by have h1 := P1.out; have h2 := P2.out; have h3 := P3.out; have h24 := P24.out; have h25 := P25.out; have h26 := P26.out; have h27 := P27.out; have h28 := P28.out; have h29 := P29.out; have h30 := P30.out; have h31 := P31.out; have h32 := P32.out; omega⟩
                          have hml : m < 8 := by have h1 := P1.out; have h2 := P2.out; have h3 := P3.out; have h24 := P24.out; have h25 := P25.out; have h26 := P26.out; have h27 := P27.out; have h28 := P28.out; have h29 := P29.out; have h30 := P30.out; have h31 := P31.out; have h32 := P32.out; omega
                          have hw : IntKind.i64.wrap (8 * (m : Int)) = 8 * (m : Int) := IntWalk.i64_in _ (by omega)
                          have HMM := Aside0.mk hm
                          rw [hm] at k2
                          have dm8 : decide ((m : Int) < 8) = true := decide_eq_true (by omega)
                          have dm0 : decide ((0 : Int) ≤ (m : Int)) = true := decide_eq_true (by omega)
                          clear hm
                          by_cases h33 : t.f4 / 2 ^ (8 * m) = 0
                          · have P33 := Aside0.mk h33
                            have b33 : (t.f4 / 2 ^ (8 * m) == 0) = true := by rw [beq_iff_eq]; exact h33
                            have b33x : (t.f4 / 2 ^ (8 * m) != 0) = false := by rw [bne_eq_false_iff_eq]; exact h33
                            clear h33
                            have hib : initB u.f2 t.f4 = true := by have h1 := P1.out; have h2 := P2.out; have h3 := P3.out; have h24 := P24.out; have h25 := P25.out; have h26 := P26.out; have h27 := P27.out; have h28 := P28.out; have h29 := P29.out; have h30 := P30.out; have h31 := P31.out; have h32 := P32.out; have h33 := P33.out; unfold initB; rw [HMM.out, Int.toNat_natCast, decide_eq_true (show t.f4 ≤ 4294967295 by omega), decide_eq_false (show ¬ (8 : Int) ≤ (m : Int) by omega), decide_eq_false (show ¬ (m : Int) < 0 by omega), beq_iff_eq.mpr (by assumption)]; rfl
                            have HK := Aside0.mk (show errF [eMsgVal, eMsgFrom, eMsgInit, eMsgAct] c i = actV c t.f6.f0 t.f6.f1 t.f6.f2 t.f6.f3 0 4 from by have h1 := P1.out; have h2 := P2.out; have h3 := P3.out; have h24 := P24.out; have h25 := P25.out; have h26 := P26.out; have h27 := P27.out; have h28 := P28.out; have h29 := P29.out; have h30 := P30.out; have h31 := P31.out; have h32 := P32.out; have h33 := P33.out; rw [HE.out, hib]; simp [eq_self, h1, h2, h3, h24, h25, h26, h27, h28, h29, h30, h31, h32, h33])
                            clear hib
                            go_wp2_with (first | ((with_reducible refine gate_dst (N := 143) rfl ?_); refine load33 HS.out rfl (.tmp 2) rfl rfl ?_))
                            have hx := actR_calls V c w2 HS.out.cf t.f6.f0 t.f6.f1 t.f6.f2 t.f6.f3 hz 0 4
                            unfold arr at hx
                            refine hx.mono ?_
                            clear hx
                            rintro e w3 ⟨rfl, B3⟩
                            replace HB := Aside0.mk (HB.out.trans (B3.mono HB.out.size))
                            clear B3
                            go_wp2_with fail
                            go_ret
                            exact ⟨by rw [HK.out] <;> rfl, HB.out⟩
                          · have P33 := Aside0.mk h33
                            have b33 : (t.f4 / 2 ^ (8 * m) == 0) = false := by rw [beq_eq_false_iff_ne]; exact h33
                            have b33x : (t.f4 / 2 ^ (8 * m) != 0) = true := by rw [bne_iff_ne]; exact h33
                            clear h33
                            have hib : initB u.f2 t.f4 = false := by have h1 := P1.out; have h2 := P2.out; have h3 := P3.out; have h24 := P24.out; have h25 := P25.out; have h26 := P26.out; have h27 := P27.out; have h28 := P28.out; have h29 := P29.out; have h30 := P30.out; have h31 := P31.out; have h32 := P32.out; have h33 := P33.out; unfold initB; rw [HMM.out, Int.toNat_natCast, decide_eq_true (show t.f4 ≤ 4294967295 by omega), decide_eq_false (show ¬ (8 : Int) ≤ (m : Int) by omega), decide_eq_false (show ¬ (m : Int) < 0 by omega), beq_eq_false_iff_ne.mpr (by assumption)]; rfl
                            have HK := Aside0.mk (show errF [eMsgVal, eMsgFrom, eMsgInit, eMsgAct] c i = 74 from by have h1 := P1.out; have h2 := P2.out; have h3 := P3.out; have h24 := P24.out; have h25 := P25.out; have h26 := P26.out; have h27 := P27.out; have h28 := P28.out; have h29 := P29.out; have h30 := P30.out; have h31 := P31.out; have h32 := P32.out; have h33 := P33.out; rw [HE.out, hib]; simp [eq_self, h1, h2, h3, h24, h25, h26, h27, h28, h29, h30, h31, h32, h33])
                            clear hib
                            go_wp2_with fail
                            go_ret
                            exact ⟨by rw [HK.out] <;> rfl, HB.out⟩
                        · have P32 := Aside0.mk h32
                          have b32 : decide (0 ≤ u.f2) = false := decide_eq_false h32
                          clear h32
                          have HK := Aside0.mk (show errF [eMsgVal, eMsgFrom, eMsgInit, eMsgAct] c i = actV c t.f6.f0 t.f6.f1 t.f6.f2 t.f6.f3 0 4 from by have h1 := P1.out; have h2 := P2.out; have h3 := P3.out; have h24 := P24.out; have h25 := P25.out; have h26 := P26.out; have h27 := P27.out; have h28 := P28.out; have h29 := P29.out; have h30 := P30.out; have h31 := P31.out; have h32 := P32.out; rw [HE.out]; simp [initB, h1, h2, h3, h24, h25, h26, h27, h28, h29, h30, h31, h32] <;> first | omega | (intros; omega))
                          go_wp2_with (first | ((with_reducible refine gate_dst (N := 143) rfl ?_); refine load33 HS.out rfl (.tmp 2) rfl rfl ?_))
                          have hx := actR_calls V c w2 HS.out.cf t.f6.f0 t.f6.f1 t.f6.f2 t.f6.f3 hz 0 4
                          unfold arr at hx
                          refine hx.mono ?_
                          clear hx
                          rintro e w3 ⟨rfl, B3⟩
                          replace HB := Aside0.mk (HB.out.trans (B3.mono HB.out.size))
                          clear B3
                          go_wp2_with fail
                          go_ret
                          exact ⟨by rw [HK.out] <;> rfl, HB.out⟩
                      · have P31 := Aside0.mk h31
                        have b31 : decide (u.f2 < 8) = false := decide_eq_false h31
                        clear h31
                        have HK := Aside0.mk (show errF [eMsgVal, eMsgFrom, eMsgInit, eMsgAct] c i = actV c t.f6.f0 t.f6.f1 t.f6.f2 t.f6.f3 0 4 from by have h1 := P1.out; have h2 := P2.out; have h3 := P3.out; have h24 := P24.out; have h25 := P25.out; have h26 := P26.out; have h27 := P27.out; have h28 := P28.out; have h29 := P29.out; have h30 := P30.out; have h31 := P31.out; rw [HE.out]; simp [initB, h1, h2, h3, h24, h25, h26, h27, h28, h29, h30, h31] <;> first | omega | (intros; omega))
                        go_wp2_with (first | ((with_reducible refine gate_dst (N := 143) rfl ?_); refine load33 HS.out rfl (.tmp 2) rfl rfl ?_))
                        have hx := actR_calls V c w2 HS.out.cf t.f6.f0 t.f6.f1 t.f6.f2 t.f6.f3 hz 0 4
                        unfold arr at hx
                        refine hx.mono ?_
                        clear hx
                        rintro e w3 ⟨rfl, B3⟩
                        replace HB := Aside0.mk (HB.out.trans (B3.mono HB.out.size))
                        clear B3
                        go_wp2_with fail
                        go_ret
                        exact ⟨by rw [HK.out] <;> rfl, HB.out⟩
                  · have P29 := Aside0.mk h29
                    have b29 : (u.f1 == 1) = false := by rw [beq_eq_false_iff_ne]; exact h29
                    have b29x : (u.f1 != 1) = true := by rw [bne_iff_ne]; exact h29
                    clear h29
                    have HK := Aside0.mk (show errF [eMsgVal, eMsgFrom, eMsgInit, eMsgAct] c i = 73 from by have h1 := P1.out; have h2 := P2.out; have h3 := P3.out; have h24 := P24.out; have h25 := P25.out; have h26 := P26.out; have h27 := P27.out; have h28 := P28.out; have h29 := P29.out; rw [HE.out]; simp [initB, h1, h2, h3, h24, h25, h26, h27, h28, h29] <;> first | omega | (intros; omega))
                    go_wp2_with fail
                    go_ret
                    exact ⟨by rw [HK.out] <;> rfl, HB.out⟩
            · have P26 := Aside0.mk h26
              have b26 : (t.f5 == 0) = false := by rw [beq_eq_false_iff_ne]; exact h26
              have b26x : (t.f5 != 0) = true := by rw [bne_iff_ne]; exact h26
              clear h26
              have HK := Aside0.mk (show errF [eMsgVal, eMsgFrom, eMsgInit, eMsgAct] c i = 74 from by have h1 := P1.out; have h2 := P2.out; have h3 := P3.out; have h24 := P24.out; have h25 := P25.out; have h26 := P26.out; rw [HE.out]; simp [msgVal, h1, h2, h3, h24, h25, h26] <;> first | omega | (intros; omega))
              go_wp2_with fail
              go_ret
              exact ⟨by rw [HK.out] <;> rfl, HB.out⟩
          · have P25 := Aside0.mk h25
            have b25 : (t.f1 == 2) = false := by rw [beq_eq_false_iff_ne]; exact h25
            have b25x : (t.f1 == 3) = true := by have h1 := P1.out; have h2 := P2.out; have h3 := P3.out; rw [beq_iff_eq]; omega
            clear h25
            by_cases h34 : t.f4 = 0
            · have P34 := Aside0.mk h34
              have b34 : (t.f4 == 0) = true := by rw [beq_iff_eq]; exact h34
              have b34x : (t.f4 != 0) = false := by rw [bne_eq_false_iff_eq]; exact h34
              clear h34
              by_cases h35 : t.f5 < 1
              · have P35 := Aside0.mk h35
                have b35 : decide (t.f5 < 1) = true := decide_eq_true h35
                clear h35
                have HK := Aside0.mk (show errF [eMsgVal, eMsgFrom, eMsgInit, eMsgAct] c i = 74 from by have h1 := P1.out; have h2 := P2.out; have h3 := P3.out; have h24 := P24.out; have h25 := P25.out; have h34 := P34.out; have h35 := P35.out; rw [HE.out]; simp [msgVal, h1, h2, h3, h24, h25, h34, h35] <;> first | omega | (intros; omega))
                go_wp2_with fail
                go_ret
                exact ⟨by rw [HK.out] <;> rfl, HB.out⟩
              · have P35 := Aside0.mk h35
                have b35 : decide (t.f5 < 1) = false := decide_eq_false h35
                clear h35
                by_cases h36 : 16 < t.f5
                · have P36 := Aside0.mk h36
                  have b36 : decide (16 < t.f5) = true := decide_eq_true h36
                  clear h36
                  have HK := Aside0.mk (show errF [eMsgVal, eMsgFrom, eMsgInit, eMsgAct] c i = 74 from by have h1 := P1.out; have h2 := P2.out; have h3 := P3.out; have h24 := P24.out; have h25 := P25.out; have h34 := P34.out; have h35 := P35.out; have h36 := P36.out; rw [HE.out]; simp [msgVal, h1, h2, h3, h24, h25, h34, h35, h36] <;> first | omega | (intros; omega))
                  go_wp2_with fail
                  go_ret
                  exact ⟨by rw [HK.out] <;> rfl, HB.out⟩
                · have P36 := Aside0.mk h36
                  have b36 : decide (16 < t.f5) = false := decide_eq_false h36
                  clear h36
                  by_cases h37 : t.f3 < 0
                  · have P37 := Aside0.mk h37
                    have b37 : decide (t.f3 < 0) = true := decide_eq_true h37
                    clear h37
                    have HK := Aside0.mk (show errF [eMsgVal, eMsgFrom, eMsgInit, eMsgAct] c i = 73 from by have h1 := P1.out; have h2 := P2.out; have h3 := P3.out; have h24 := P24.out; have h25 := P25.out; have h34 := P34.out; have h35 := P35.out; have h36 := P36.out; have h37 := P37.out; rw [HE.out]; simp [msgVal, msgFrom, h1, h2, h3, h24, h25, h34, h35, h36, h37] <;> first | omega | (intros; omega))
                    go_wp2_with fail
                    go_ret
                    exact ⟨by rw [HK.out] <;> rfl, HB.out⟩
                  · have P37 := Aside0.mk h37
                    have b37 : decide (t.f3 < 0) = false := decide_eq_false h37
                    clear h37
                    by_cases h38 : (c.f9.length : Int) ≤ t.f3
                    · have P38 := Aside0.mk h38
                      have b38 : decide ((c.f9.length : Int) ≤ t.f3) = true := decide_eq_true h38
                      clear h38
                      have HK := Aside0.mk (show errF [eMsgVal, eMsgFrom, eMsgInit, eMsgAct] c i = 73 from by have h1 := P1.out; have h2 := P2.out; have h3 := P3.out; have h24 := P24.out; have h25 := P25.out; have h34 := P34.out; have h35 := P35.out; have h36 := P36.out; have h37 := P37.out; have h38 := P38.out; rw [HE.out]; simp [msgVal, msgFrom, h1, h2, h3, h24, h25, h34, h35, h36, h37, h38] <;> first | omega | (intros; omega))
                      go_wp2_with fail
                      go_ret
                      exact ⟨by rw [HK.out] <;> rfl, HB.out⟩
                    · have P38 := Aside0.mk h38
                      have b38 : decide ((c.f9.length : Int) ≤ t.f3) = false := decide_eq_false h38
                      clear h38
                      obtain ⟨p, hp⟩ : ∃ p : Nat, t.f3 = p := ⟨t.f3.toNat, by have h1 := P1.out; have h2 := P2.out; have h3 := P3.out; have h24 := P24.out; have h25 := P25.out; have h34 := P34.out; have h35 := P35.out; have h36 := P36.out; have h37 := P37.out; have h38 := P38.out; omega⟩
                      have hpl : p < c.f9.length := by have h1 := P1.out; have h2 := P2.out; have h3 := P3.out; have h24 := P24.out; have h25 := P25.out; have h34 := P34.out; have h35 := P35.out; have h36 := P36.out; have h37 := P37.out; have h38 := P38.out; omega
                      obtain ⟨u, ad2, hu, e2, HA2⟩ := msg_at HS.out.cf.g p hpl
                      obtain rfl : ad2 = ad := by have e3 := HEE.out.symm.trans e2; injection e3 with e3; exact e3.symm
                      have k1 := HA2.g1
                      have k2 := HA2.g2
                      rw [hp] at g3
                      have HU := Aside0.mk (show c.f9.getD t.f3.toNat z91 = u from by rw [hp, Int.toNat_natCast]; exact hu)
                      have HP := Aside0.mk hp
                      have hmv : msgVal t = true := by have h1 := P1.out; have h2 := P2.out; have h3 := P3.out; have h24 := P24.out; have h25 := P25.out; have h34 := P34.out; have h35 := P35.out; have h36 := P36.out; have h37 := P37.out; have h38 := P38.out; simp [msgVal, h1, h2, h3, h24, h25, h34, h35, h36, h37, h38] <;> first | omega | (intros; omega)
                      have h1n : ¬ t.f1 = 1 := by have h1 := P1.out; have h2 := P2.out; have h3 := P3.out; have h24 := P24.out; have h25 := P25.out; have h34 := P34.out; have h35 := P35.out; have h36 := P36.out; have h37 := P37.out; have h38 := P38.out; omega
                      have hmf : msgFrom c.f9 t = (u.f1 == 1) := by have h1 := P1.out; have h2 := P2.out; have h3 := P3.out; have h24 := P24.out; have h25 := P25.out; have h34 := P34.out; have h35 := P35.out; have h36 := P36.out; have h37 := P37.out; have h38 := P38.out; unfold msgFrom; rw [HU.out, beq_eq_false_iff_ne.mpr h1n, decide_eq_true (show 0 ≤ t.f3 by omega), decide_eq_true (show t.f3 < (c.f9.length : Int) by omega)]; rfl
                      rw [hmv, hmf, HU.out, if_neg (by simp), if_neg h1n] at HE
                      clear hu e2 HA2 hp hmv h1n hmf
                      by_cases h39 : u.f1 = 1
                      · have P39 := Aside0.mk h39
                        have b39 : (u.f1 == 1) = true := by rw [beq_iff_eq]; exact h39
                        have b39x : (u.f1 != 1) = false := by rw [bne_eq_false_iff_eq]; exact h39
                        clear h39
                        by_cases h40 : 4294967295 < t.f4
                        · have P40 := Aside0.mk h40
                          have b40 : decide (4294967295 < t.f4) = true := decide_eq_true h40
                          clear h40
                          have HK := Aside0.mk (show errF [eMsgVal, eMsgFrom, eMsgInit, eMsgAct] c i = 74 from by have h1 := P1.out; have h2 := P2.out; have h3 := P3.out; have h24 := P24.out; have h25 := P25.out; have h34 := P34.out; have h35 := P35.out; have h36 := P36.out; have h37 := P37.out; have h38 := P38.out; have h39 := P39.out; have h40 := P40.out; rw [HE.out]; simp [initB, h1, h2, h3, h24, h25, h34, h35, h36, h37, h38, h39, h40] <;> first | omega | (intros; omega))
                          go_wp2_with fail
                          go_ret
                          exact ⟨by rw [HK.out] <;> rfl, HB.out⟩
                        · have P40 := Aside0.mk h40
                          have b40 : decide (4294967295 < t.f4) = false := decide_eq_false h40
                          clear h40
                          by_cases h41 : u.f2 < 8
                          · have P41 := Aside0.mk h41
                            have b41 : decide (u.f2 < 8) = true := decide_eq_true h41
                            clear h41
                            by_cases h42 : 0 ≤ u.f2
                            · have P42 := Aside0.mk h42
                              have b42 : decide (0 ≤ u.f2) = true := decide_eq_true h42
                              clear h42
                              obtain ⟨m, hm⟩ : ∃ m : Nat, u.f2 = m := ⟨u.f2.toNat, by have h1 := P1.out; have h2 := P2.out; have h3 := P3.out; have h24 := P24.out; have h25 := P25.out; have h34 := P34.out; have h35 := P35.out; have h36 := P36.out; have h37 := P37.out; have h38 := P38.out; have h39 := P39.out; have h40 := P40.out; have h41 := P41.out; have h42 := P42.out; omega⟩
                              have hml : m < 8 := by have h1 := P1.out; have h2 := P2.out; have h3 := P3.out; have h24 := P24.out; have h25 := P25.out; have h34 := P34.out; have h35 := P35.out; have h36 := P36.out; have h37 := P37.out; have h38 := P38.out; have h39 := P39.out; have h40 := P40.out; have h41 := P41.out; have h42 := P42.out; omega
                              have hw : IntKind.i64.wrap (8 * (m : Int)) = 8 * (m : Int) := IntWalk.i64_in _ (by omega)
                              have HMM := Aside0.mk hm
                              rw [hm] at k2
                              have dm8 : decide ((m : Int) < 8) = true := decide_eq_true (by omega)
                              have dm0 : decide ((0 : Int) ≤ (m : Int)) = true := decide_eq_true (by omega)
                              clear hm
                              by_cases h43 : t.f4 / 2 ^ (8 * m) = 0
                              · have P43 := Aside0.mk h43
                                have b43 : (t.f4 / 2 ^ (8 * m) == 0) = true := by rw [beq_iff_eq]; exact h43
                                have b43x : (t.f4 / 2 ^ (8 * m) != 0) = false := by rw [bne_eq_false_iff_eq]; exact h43
                                clear h43
                                have hib : initB u.f2 t.f4 = true := by have h1 := P1.out; have h2 := P2.out; have h3 := P3.out; have h24 := P24.out; have h25 := P25.out; have h34 := P34.out; have h35 := P35.out; have h36 := P36.out; have h37 := P37.out; have h38 := P38.out; have h39 := P39.out; have h40 := P40.out; have h41 := P41.out; have h42 := P42.out; have h43 := P43.out; unfold initB; rw [HMM.out, Int.toNat_natCast, decide_eq_true (show t.f4 ≤ 4294967295 by omega), decide_eq_false (show ¬ (8 : Int) ≤ (m : Int) by omega), decide_eq_false (show ¬ (m : Int) < 0 by omega), beq_iff_eq.mpr (by assumption)]; rfl
                                have HK := Aside0.mk (show errF [eMsgVal, eMsgFrom, eMsgInit, eMsgAct] c i = actV c t.f6.f0 t.f6.f1 t.f6.f2 t.f6.f3 0 4 from by have h1 := P1.out; have h2 := P2.out; have h3 := P3.out; have h24 := P24.out; have h25 := P25.out; have h34 := P34.out; have h35 := P35.out; have h36 := P36.out; have h37 := P37.out; have h38 := P38.out; have h39 := P39.out; have h40 := P40.out; have h41 := P41.out; have h42 := P42.out; have h43 := P43.out; rw [HE.out, hib]; simp [eq_self, h1, h2, h3, h24, h25, h34, h35, h36, h37, h38, h39, h40, h41, h42, h43])
                                clear hib
                                go_wp2_with (first | ((with_reducible refine gate_dst (N := 143) rfl ?_); refine load33 HS.out rfl (.tmp 2) rfl rfl ?_))
                                have hx := actR_calls V c w2 HS.out.cf t.f6.f0 t.f6.f1 t.f6.f2 t.f6.f3 hz 0 4
                                unfold arr at hx
                                refine hx.mono ?_
                                clear hx
                                rintro e w3 ⟨rfl, B3⟩
                                replace HB := Aside0.mk (HB.out.trans (B3.mono HB.out.size))
                                clear B3
                                go_wp2_with fail
                                go_ret
                                exact ⟨by rw [HK.out] <;> rfl, HB.out⟩
                              · have P43 := Aside0.mk h43
                                have b43 : (t.f4 / 2 ^ (8 * m) == 0) = false := by rw [beq_eq_false_iff_ne]; exact h43
                                have b43x : (t.f4 / 2 ^ (8 * m) != 0) = true := by rw [bne_iff_ne]; exact h43
                                clear h43
                                have hib : initB u.f2 t.f4 = false := by have h1 := P1.out; have h2 := P2.out; have h3 := P3.out; have h24 := P24.out; have h25 := P25.out; have h34 := P34.out; have h35 := P35.out; have h36 := P36.out; have h37 := P37.out; have h38 := P38.out; have h39 := P39.out; have h40 := P40.out; have h41 := P41.out; have h42 := P42.out; have h43 := P43.out; unfold initB; rw [HMM.out, Int.toNat_natCast, decide_eq_true (show t.f4 ≤ 4294967295 by omega), decide_eq_false (show ¬ (8 : Int) ≤ (m : Int) by omega), decide_eq_false (show ¬ (m : Int) < 0 by omega), beq_eq_false_iff_ne.mpr (by assumption)]; rfl
                                have HK := Aside0.mk (show errF [eMsgVal, eMsgFrom, eMsgInit, eMsgAct] c i = 74 from by have h1 := P1.out; have h2 := P2.out; have h3 := P3.out; have h24 := P24.out; have h25 := P25.out; have h34 := P34.out; have h35 := P35.out; have h36 := P36.out; have h37 := P37.out; have h38 := P38.out; have h39 := P39.out; have h40 := P40.out; have h41 := P41.out; have h42 := P42.out; have h43 := P43.out; rw [HE.out, hib]; simp [eq_self, h1, h2, h3, h24, h25, h34, h35, h36, h37, h38, h39, h40, h41, h42, h43])
                                clear hib
                                go_wp2_with fail
                                go_ret
                                exact ⟨by rw [HK.out] <;> rfl, HB.out⟩
                            · have P42 := Aside0.mk h42
                              have b42 : decide (0 ≤ u.f2) = false := decide_eq_false h42
                              clear h42
                              have HK := Aside0.mk (show errF [eMsgVal, eMsgFrom, eMsgInit, eMsgAct] c i = actV c t.f6.f0 t.f6.f1 t.f6.f2 t.f6.f3 0 4 from by have h1 := P1.out; have h2 := P2.out; have h3 := P3.out; have h24 := P24.out; have h25 := P25.out; have h34 := P34.out; have h35 := P35.out; have h36 := P36.out; have h37 := P37.out; have h38 := P38.out; have h39 := P39.out; have h40 := P40.out; have h41 := P41.out; have h42 := P42.out; rw [HE.out]; simp [initB, h1, h2, h3, h24, h25, h34, h35, h36, h37, h38, h39, h40, h41, h42] <;> first | omega | (intros; omega))
                              go_wp2_with (first | ((with_reducible refine gate_dst (N := 143) rfl ?_); refine load33 HS.out rfl (.tmp 2) rfl rfl ?_))
                              have hx := actR_calls V c w2 HS.out.cf t.f6.f0 t.f6.f1 t.f6.f2 t.f6.f3 hz 0 4
                              unfold arr at hx
                              refine hx.mono ?_
                              clear hx
                              rintro e w3 ⟨rfl, B3⟩
                              replace HB := Aside0.mk (HB.out.trans (B3.mono HB.out.size))
                              clear B3
                              go_wp2_with fail
                              go_ret
                              exact ⟨by rw [HK.out] <;> rfl, HB.out⟩
                          · have P41 := Aside0.mk h41
                            have b41 : decide (u.f2 < 8) = false := decide_eq_false h41
                            clear h41
                            have HK := Aside0.mk (show errF [eMsgVal, eMsgFrom, eMsgInit, eMsgAct] c i = actV c t.f6.f0 t.f6.f1 t.f6.f2 t.f6.f3 0 4 from by have h1 := P1.out; have h2 := P2.out; have h3 := P3.out; have h24 := P24.out; have h25 := P25.out; have h34 := P34.out; have h35 := P35.out; have h36 := P36.out; have h37 := P37.out; have h38 := P38.out; have h39 := P39.out; have h40 := P40.out; have h41 := P41.out; rw [HE.out]; simp [initB, h1, h2, h3, h24, h25, h34, h35, h36, h37, h38, h39, h40, h41] <;> first | omega | (intros; omega))
                            go_wp2_with (first | ((with_reducible refine gate_dst (N := 143) rfl ?_); refine load33 HS.out rfl (.tmp 2) rfl rfl ?_))
                            have hx := actR_calls V c w2 HS.out.cf t.f6.f0 t.f6.f1 t.f6.f2 t.f6.f3 hz 0 4
                            unfold arr at hx
                            refine hx.mono ?_
                            clear hx
                            rintro e w3 ⟨rfl, B3⟩
                            replace HB := Aside0.mk (HB.out.trans (B3.mono HB.out.size))
                            clear B3
                            go_wp2_with fail
                            go_ret
                            exact ⟨by rw [HK.out] <;> rfl, HB.out⟩
                      · have P39 := Aside0.mk h39
                        have b39 : (u.f1 == 1) = false := by rw [beq_eq_false_iff_ne]; exact h39
                        have b39x : (u.f1 != 1) = true := by rw [bne_iff_ne]; exact h39
                        clear h39
                        have HK := Aside0.mk (show errF [eMsgVal, eMsgFrom, eMsgInit, eMsgAct] c i = 73 from by have h1 := P1.out; have h2 := P2.out; have h3 := P3.out; have h24 := P24.out; have h25 := P25.out; have h34 := P34.out; have h35 := P35.out; have h36 := P36.out; have h37 := P37.out; have h38 := P38.out; have h39 := P39.out; rw [HE.out]; simp [initB, h1, h2, h3, h24, h25, h34, h35, h36, h37, h38, h39] <;> first | omega | (intros; omega))
                        go_wp2_with fail
                        go_ret
                        exact ⟨by rw [HK.out] <;> rfl, HB.out⟩
            · have P34 := Aside0.mk h34
              have b34 : (t.f4 == 0) = false := by rw [beq_eq_false_iff_ne]; exact h34
              have b34x : (t.f4 != 0) = true := by rw [bne_iff_ne]; exact h34
              clear h34
              have HK := Aside0.mk (show errF [eMsgVal, eMsgFrom, eMsgInit, eMsgAct] c i = 74 from by have h1 := P1.out; have h2 := P2.out; have h3 := P3.out; have h24 := P24.out; have h25 := P25.out; have h34 := P34.out; rw [HE.out]; simp [msgVal, h1, h2, h3, h24, h25, h34] <;> first | omega | (intros; omega))
              go_wp2_with fail
              go_ret
              exact ⟨by rw [HK.out] <;> rfl, HB.out⟩
        · have P24 := Aside0.mk h24
          have b24 : (t.f2 == 0) = false := by rw [beq_eq_false_iff_ne]; exact h24
          have b24x : (t.f2 != 0) = true := by rw [bne_iff_ne]; exact h24
          clear h24
          have HK := Aside0.mk (show errF [eMsgVal, eMsgFrom, eMsgInit, eMsgAct] c i = 74 from by have h1 := P1.out; have h2 := P2.out; have h3 := P3.out; have h24 := P24.out; rw [HE.out]; simp [msgVal, h1, h2, h3, h24] <;> first | omega | (intros; omega))
          go_wp2_with fail
          go_ret
          exact ⟨by rw [HK.out] <;> rfl, HB.out⟩
end Go.Proofs.YthckjbmgeidkgaaDoor.XA
/- the document's rows: interrupts. -/
namespace Go.Proofs.YthckjbmgeidkgaaDoor.XA
set_option linter.unusedVariables false
set_option linter.unusedSimpArgs false
open Go.RowKit Go.WideMaps Go.Maps Go.Proofs.YthckjbmgeidkgaaDoorW.PrintWords Go.Proofs.YthckjbmgeidkgaaDoorW.PrintLast Go.Proofs.YthckjbmgeidkgaaDoorW.PrintMore
theorem box55 (w : World) (t : S55) (A3 : Option Addr) (c3 : Nat) (A4 : Option Addr) (c4 : Nat) : At55 (w.alloc (.cells #[.string t.f0, .int .i64 t.f1, .int .i64 t.f2, .slice A3 t.f3.length c3, .slice A4 t.f4.length c4] 55)) ⟨w.heap.size, 0, none⟩ t A3 c3 A4 c4 := ⟨fun j v hj => box_at (cs := [.string t.f0, .int .i64 t.f1, .int .i64 t.f2, .slice A3 t.f3.length c3, .slice A4 t.f4.length c4]) (e := 55) j v hj⟩
theorem cntI_pos {rs : List S65} {l : List Int} {j : Nat} (hj : j < l.length) (h : kindR rs (l.getD j 0).toNat = 3) : 0 < cntI rs l := by
  unfold cntI
  exact List.length_pos_of_mem (List.mem_filter.mpr ⟨getD_mem hj, by rw [h]; rfl⟩)
theorem cntI_zero {rs : List S65} {l : List Int} (h : ∀ m, m < l.length → kindR rs (l.getD m 0).toNat ≠ 3) : cntI rs l = 0 := by
  unfold cntI
  rw [List.length_eq_zero_iff, List.filter_eq_nil_iff]
  intro x hx
  obtain ⟨m, hm, rfl⟩ := List.getElem_of_mem hx
  have := h m hm
  rw [List.getD_eq_getElem?_getD, List.getElem?_eq_getElem hm] at this
  simpa using this
set_option maxRecDepth 1000000 in
set_option maxHeartbeats 4000000 in
theorem isr_calls : RChkN 75 (fun c => c.f8.length) (errF [eIsrVal, eIsrRefs, eIsrRules]) := by
  intro w V c i h hnm hi
  have hbd := h.bd.ii _ (getD_mem (d := z55) hi)
  have hbi := h.bd.i
  have hi8 : i ≤ 8796093022208 := Nat.le_trans (Nat.le_of_lt hi) hbi
  clear hnm hbi
  have HS := Aside0.mk (At.made h)
  have HB := Aside0.mk (below_a w (.cells (arr V c) 33))
  have HE := Aside0.mk (show errF [eIsrVal, eIsrRefs, eIsrRules] c i = if isrVal (c.f8.getD i z55) = false then 74 else if isrRefs c (c.f8.getD i z55) = false then 73 else if isrOwn c (c.f8.getD i z55) || isrClash c.f8 i (c.f8.getD i z55) then 70 else 0 from by
    unfold errF errF errF errF eIsrVal eIsrRefs eIsrRules
    cases isrVal (c.f8.getD i z55) <;> cases isrRefs c (c.f8.getD i z55) <;> cases isrOwn c (c.f8.getD i z55) <;> cases isrClash c.f8 i (c.f8.getD i z55) <;> rfl)
  clear h
  go_enter Tryd.func75, Tryd.ntmps75
  unfold arr at *
  go_upto_region 1 with fail
  generalize w.alloc (.cells #[.string c.f0, .string c.f1.f0, .bool c.f1.f1, .bool c.f1.f2, .bool c.f1.f3, .bool c.f1.f4, .bool c.f1.f5, .bool c.f1.f6, .bool c.f1.f7, .bool c.f1.f8, .slice V.a10 c.f2.length V.k10, .slice V.a11 c.f3.length V.k11, .slice V.a12 c.f4.length V.k12, .slice V.a13 c.f5.length V.k13, .slice V.a14 c.f6.length V.k14, .slice V.a15 c.f7.length V.k15, .slice V.a16 c.f8.length V.k16, .slice V.a17 c.f9.length V.k17] 33) = w1 at *
  obtain ⟨t, ad, A3, c3, A4, c4, ht, e, HA, l3, gg3, l4, gg4⟩ := isr_at HS.out.cf.i i hi
  have HG3 := Aside0.mk gg3
  have HG4 := Aside0.mk gg4
  have q16 := HS.out.cell16
  rw [e] at q16
  rw [ht] at HE hbd
  have HAX := Aside0.mk HA
  have HX := Aside0.mk (box55 w1 t A3 c3 A4 c4)
  have B1 := below_a w1 (.cells #[.string t.f0, .int .i64 t.f1, .int .i64 t.f2, .slice A3 t.f3.length c3, .slice A4 t.f4.length c4] 55)
  replace HB := Aside0.mk (HB.out.trans (B1.mono HB.out.size))
  replace HS := Aside0.mk (HS.out.below B1)
  replace HG3 := Aside0.mk (Kd.C_below HG3.out B1)
  replace HG4 := Aside0.mk (Kd.C_below HG4.out B1)
  clear ht HA e B1 gg3 gg4
  go_upto_region 2 with (first | (refine load55 HAX.out rfl (.tmp 12) rfl rfl ?_) | (refine store55 (by rfl) #[.string t.f0, .int .i64 t.f1, .int .i64 t.f2, .slice A3 t.f3.length c3, .slice A4 t.f4.length c4] (by rfl) (by simp [Value.oneCell']) (by rfl) (.tmp 5) (.tmp 13) (by rfl) (by rfl) (by rfl) ?_))
  clear q16 HAX
  generalize w1.alloc (.cells #[.string t.f0, .int .i64 t.f1, .int .i64 t.f2, .slice A3 t.f3.length c3, .slice A4 t.f4.length c4] 55) = w2 at *
  generalize w1.heap.size = P at *
  have g1 := HX.out.g1
  have g2 := HX.out.g2
  have g3 := HX.out.g3
  have g4 := HX.out.g4
  have q12 := HS.out.cell12
  by_cases h1 : t.f1 < 1
  · have P1 := Aside0.mk h1
    have b1 : decide (t.f1 < 1) = true := decide_eq_true h1
    clear h1
    have HK := Aside0.mk (show errF [eIsrVal, eIsrRefs, eIsrRules] c i = 74 from by have h1 := P1.out; rw [HE.out]; simp [isrVal, h1] <;> first | omega | (intros; omega))
    go_wp2_with fail
    go_ret
    exact ⟨by rw [HK.out] <;> rfl, HB.out⟩
  · have P1 := Aside0.mk h1
    have b1 : decide (t.f1 < 1) = false := decide_eq_false h1
    clear h1
    by_cases h2 : 2 < t.f1
    · have P2 := Aside0.mk h2
      have b2 : decide (2 < t.f1) = true := decide_eq_true h2
      clear h2
      have HK := Aside0.mk (show errF [eIsrVal, eIsrRefs, eIsrRules] c i = 74 from by have h1 := P1.out; have h2 := P2.out; rw [HE.out]; simp [isrVal, h1, h2] <;> first | omega | (intros; omega))
      go_wp2_with fail
      go_ret
      exact ⟨by rw [HK.out] <;> rfl, HB.out⟩
    · have P2 := Aside0.mk h2
      have b2 : decide (2 < t.f1) = false := decide_eq_false h2
      clear h2
      by_cases h3 : t.f2 < 64
      · have P3 := Aside0.mk h3
        have b3 : decide (t.f2 < 64) = true := decide_eq_true h3
        clear h3
        have HK := Aside0.mk (show errF [eIsrVal, eIsrRefs, eIsrRules] c i = 74 from by have h1 := P1.out; have h2 := P2.out; have h3 := P3.out; rw [HE.out]; simp [isrVal, h1, h2, h3] <;> first | omega | (intros; omega))
        go_wp2_with fail
        go_ret
        exact ⟨by rw [HK.out] <;> rfl, HB.out⟩
      · have P3 := Aside0.mk h3
        have b3 : decide (t.f2 < 64) = false := decide_eq_false h3
        clear h3
        by_cases h4 : 127 < t.f2
        · have P4 := Aside0.mk h4
          have b4 : decide (127 < t.f2) = true := decide_eq_true h4
          clear h4
          have HK := Aside0.mk (show errF [eIsrVal, eIsrRefs, eIsrRules] c i = 74 from by have h1 := P1.out; have h2 := P2.out; have h3 := P3.out; have h4 := P4.out; rw [HE.out]; simp [isrVal, h1, h2, h3, h4] <;> first | omega | (intros; omega))
          go_wp2_with fail
          go_ret
          exact ⟨by rw [HK.out] <;> rfl, HB.out⟩
        · have P4 := Aside0.mk h4
          have b4 : decide (127 < t.f2) = false := decide_eq_false h4
          clear h4
          go_wp2_with fail
          refine (rises_calls A3 c3 t.f3 c.f4.length w2 HG3.out l3).mono ?_
          rintro e w5 ⟨rfl, B5⟩
          replace HX := Aside0.mk (HX.out.below B5)
          replace HS := Aside0.mk (HS.out.below B5)
          replace HB := Aside0.mk (HB.out.trans ((B5).mono HB.out.size))
          replace HG3 := Aside0.mk (Kd.C_below HG3.out (B5))
          replace HG4 := Aside0.mk (Kd.C_below HG4.out (B5))
          clear B5
          rcases h5 : riseB c.f4.length t.f3 with _ | _
          · have P5 := Aside0.mk h5
            have b5 := h5
            clear h5
            have HK := Aside0.mk (show errF [eIsrVal, eIsrRefs, eIsrRules] c i = 73 from by have h1 := P1.out; have h2 := P2.out; have h3 := P3.out; have h4 := P4.out; have h5 := P5.out; rw [HE.out]; simp [isrVal, isrRefs, h1, h2, h3, h4, h5] <;> first | omega | (intros; omega))
            go_wp2_with fail
            go_ret
            exact ⟨by rw [HK.out] <;> rfl, HB.out⟩
          · have P5 := Aside0.mk h5
            have b5 := h5
            clear h5
            clear g1 g2 g3 g4 q12
            have g4 := HX.out.g4
            have q17 := HS.out.cell17
            go_wp2_with fail
            refine (rises_calls A4 c4 t.f4 c.f9.length w5 HG4.out l4).mono ?_
            rintro e w6 ⟨rfl, B5⟩
            replace HX := Aside0.mk (HX.out.below B5)
            replace HS := Aside0.mk (HS.out.below B5)
            replace HB := Aside0.mk (HB.out.trans ((B5).mono HB.out.size))
            replace HG3 := Aside0.mk (Kd.C_below HG3.out (B5))
            replace HG4 := Aside0.mk (Kd.C_below HG4.out (B5))
            clear B5
            clear g4 q17
            rcases h6 : riseB c.f9.length t.f4 with _ | _
            · have P6 := Aside0.mk h6
              have b6 := h6
              clear h6
              have HK := Aside0.mk (show errF [eIsrVal, eIsrRefs, eIsrRules] c i = 73 from by have h1 := P1.out; have h2 := P2.out; have h3 := P3.out; have h4 := P4.out; have h5 := P5.out; have h6 := P6.out; rw [HE.out]; simp [isrVal, isrRefs, h1, h2, h3, h4, h5, h6] <;> first | omega | (intros; omega))
              go_wp2_with fail
              go_ret
              exact ⟨by rw [HK.out] <;> rfl, HB.out⟩
            · have P6 := Aside0.mk h6
              have b6 := h6
              clear h6
              have HM3 := Aside0.mk (show ∀ x ∈ t.f3, 0 ≤ x ∧ x < c.f4.length from by have h1 := P1.out; have h2 := P2.out; have h3 := P3.out; have h4 := P4.out; have h5 := P5.out; have h6 := P6.out; exact rise_mem h5)
              replace HE := Aside0.mk (show errF [eIsrVal, eIsrRefs, eIsrRules] c i = if isrOwn c t || isrClash c.f8 i t then 70 else 0 from by have h1 := P1.out; have h2 := P2.out; have h3 := P3.out; have h4 := P4.out; have h5 := P5.out; have h6 := P6.out; rw [HE.out]; simp [isrVal, isrRefs, h1, h2, h3, h4, h5, h6] <;> first | omega | (intros; omega))
              clear HG4 l3 l4
              go_wp2_with fail
              obtain ⟨n3, hn3⟩ : ∃ n, t.f3.length = n := ⟨_, rfl⟩
              obtain ⟨n4, hn4⟩ : ∃ n, t.f4.length = n := ⟨_, rfl⟩
              have HNN3 := Aside0.mk hn3
              have HNN4 := Aside0.mk hn4
              have q12 := HS.out.cell12
              have g3 := HX.out.g3
              have hb3 := hbd.1
              have hb4 := hbd.2
              rw [hn3] at g3 hb3
              rw [hn4] at hb4
              clear hn3 hn4 hbd
              go_loopw [6] (fun k wr => ∃ j : Nat, j ≤ n3 ∧ k = .int .i64 j ∧ Aside0 (Below w6.heap.size w6 wr) ∧ Aside0 (∀ m, m < j → kindR c.f4 (t.f3.getD m 0).toNat ≠ 3)) (fun k _ => n3 - (intOf k).toNat)
              case atStart => exact ⟨0, by omega, rfl, ⟨Below.refl _ _⟩, ⟨fun m hm => by omega⟩⟩
              case round =>
                obtain ⟨j, hj, rfl, HW, HR⟩ := hrel
                replace q12 := (HS.out.below HW.out).cell12
                replace g3 := (HX.out.below HW.out).g3
                rw [HNN3.out] at g3
                by_cases hlt : j < n3
                · have hd : decide ((j : Int) < (n3 : Int)) = true := decide_eq_true (by omega)
                  have HLT := Aside0.mk (Nat.succ_le_of_lt hlt)
                  obtain ⟨a3, e3, hc0⟩ := (Kd.reads_of_C (d := (0 : Int)) (Kd.C_below HG3.out HW.out)).2.2 (by rw [HNN3.out]; omega)
                  have hx := hc0 j (by rw [HNN3.out]; exact hlt)
                  have hmem : t.f3.getD j 0 ∈ t.f3 := getD_mem (by rw [HNN3.out]; exact hlt)
                  obtain ⟨h0, h1⟩ := HM3.out _ hmem
                  obtain ⟨p, hp⟩ := Int.eq_ofNat_of_zero_le h0
                  rw [hp] at hx h1
                  have hpl : p < c.f4.length := by omega
                  obtain ⟨u, ad2, hu, e2, HU⟩ := res_at (HS.out.below HW.out).cf.r p hpl
                  rw [e2] at q12
                  rw [e3] at g3
                  have k1 := HU.g1
                  have HKD := Aside0.mk (show kindR c.f4 (t.f3.getD j 0).toNat = u.f1 from by rw [hp, Int.toNat_natCast]; unfold kindR; rw [hu])
                  clear hc0 hmem h0 h1 hp hu e2 e3 HU
                  generalize u.f1 = kd at *
                  go_wp2_with fail
                  go_quiet (fail)
                  by_cases ck : kd = 3
                  · have cb : (kd == 3) = true := by simp [ck]
                    have HI := Aside0.mk (show 0 < cntI c.f4 t.f3 from cntI_pos (by rw [HNN3.out]; exact hlt) (by rw [HKD.out]; exact ck))
                    have HK := Aside0.mk (show errF [eIsrVal, eIsrRefs, eIsrRules] c i = 70 from by rw [HE.out]; simp [isrOwn, HI.out])
                    clear ck
                    go_wp2_with fail
                    go_ret
                    exact ⟨by rw [HK.out] <;> rfl, HB.out.trans ((HW.out.trans ((drewN_below _ _).mono HW.out.size)).mono HB.out.size)⟩
                  · have cb : (kd == 3) = false := by simp [ck]
                    have HKN := Aside0.mk ck
                    clear ck
                    go_wp2_with fail
                    go_roundw
                    case rel => exact ⟨j + 1, HLT.out, by go_num, ⟨HW.out.trans ((drewN_below _ _).mono HW.out.size)⟩, ⟨fun m hm => by
                      rcases Nat.lt_succ_iff_lt_or_eq.mp hm with h1 | rfl
                      · exact HR.out m h1
                      · rw [HKD.out]; exact HKN.out⟩⟩
                    case measure => have := HLT.out; simp [intOf]; omega
                · have hd : decide ((j : Int) < (n3 : Int)) = false := decide_eq_false (by omega)
                  have HI0 := Aside0.mk (show cntI c.f4 t.f3 = 0 from cntI_zero (fun m hm => HR.out m (by rw [HNN3.out] at hm; omega)))
                  replace HX := Aside0.mk (HX.out.below HW.out)
                  replace HS := Aside0.mk (HS.out.below HW.out)
                  replace HB := Aside0.mk (HB.out.trans (HW.out.mono HB.out.size))
                  clear HG3 HM3 HW HR q12 g3 hj
                  generalize wr = w7 at *
                  have g1 := HX.out.g1
                  have g3 := HX.out.g3
                  have g4 := HX.out.g4
                  have q12 := HS.out.cell12
                  have q16 := HS.out.cell16
                  rw [HNN3.out] at g3
                  rw [HNN4.out] at g4
                  have hw : IntKind.i64.wrap ((n3 : Int) + (n4 : Int)) = (n3 : Int) + (n4 : Int) := IntWalk.i64_in _ (by omega)
                  by_cases h1 : t.f1 = 1
                  · have P1 := Aside0.mk h1
                    have b1 : (t.f1 == 1) = true := by rw [beq_iff_eq]; exact h1
                    have b1x : (t.f1 != 1) = false := by rw [bne_eq_false_iff_eq]; exact h1
                    clear h1
                    by_cases h2 : 0 < n3 + n4
                    · have P2 := Aside0.mk h2
                      have b2 : decide ((0 : Int) < (n3 : Int) + (n4 : Int)) = true := decide_eq_true (by omega)
                      clear h2
                      have HK := Aside0.mk (show errF [eIsrVal, eIsrRefs, eIsrRules] c i = 70 from by have h1 := P1.out; have h2 := P2.out; rw [HE.out]; simp [isrOwn, HNN3.out, HNN4.out, h1, h2] <;> first | omega | (intros; omega))
                      go_wp2_with fail
                      go_ret
                      exact ⟨by rw [HK.out] <;> rfl, HB.out⟩
                    · have P2 := Aside0.mk h2
                      have b2 : decide ((0 : Int) < (n3 : Int) + (n4 : Int)) = false := decide_eq_false (by omega)
                      clear h2
                      replace HE := Aside0.mk (show errF [eIsrVal, eIsrRefs, eIsrRules] c i = if isrClash c.f8 i t then 70 else 0 from by have h1 := P1.out; have h2 := P2.out; rw [HE.out]; simp [isrOwn, HNN3.out, HNN4.out, HI0.out, h1, h2] <;> first | omega | (intros; omega))
                      go_wp2_with fail
                      clear q16 q12 g1 g3 g4 HI0
                      go_loopw [7] (fun k wr => ∃ j : Nat, j ≤ i ∧ k = .int .i64 j ∧ Aside0 (Below w7.heap.size w7 wr) ∧ Aside0 (∀ m, m < j → clash (c.f8.getD m z55) t = false)) (fun k _ => i - (intOf k).toNat)
                      case atStart => exact ⟨0, by omega, rfl, ⟨Below.refl _ _⟩, ⟨fun m hm => by omega⟩⟩
                      case round =>
                        obtain ⟨j, hj, rfl, HW, HR⟩ := hrel
                        by_cases hlt : j < i
                        · have hd : decide ((j : Int) < (i : Int)) = true := decide_eq_true (by omega)
                          have HLT := Aside0.mk (Nat.succ_le_of_lt hlt)
                          obtain ⟨u, ad2, D3, d3, D4, d4, hu, e2, HA2, _⟩ := isr_at (HS.out.below HW.out).cf.i j (by omega)
                          have HU := Aside0.mk HA2
                          have HCY := Aside0.mk (fun hc : clash u t = true => show isrClash c.f8 i t = true from clash_yes hlt (by rw [hu]; exact hc))
                          have HCN := Aside0.mk (fun hc : clash u t = false => show ∀ m, m < j + 1 → clash (c.f8.getD m z55) t = false from fun m hm => by
                            rcases Nat.lt_succ_iff_lt_or_eq.mp hm with h1 | rfl
                            · exact HR.out m h1
                            · rw [hu]; exact hc)
                          have q16 := (HS.out.below HW.out).cell16
                          rw [e2] at q16
                          have hj2 : j < c.f8.length := by omega
                          have HWB := Aside0.mk (below_a wr (.cells #[.string u.f0, .int .i64 u.f1, .int .i64 u.f2, .slice D3 u.f3.length d3, .slice D4 u.f4.length d4] 55))
                          have HXW := Aside0.mk ((HX.out.below HW.out).below HWB.out)
                          have HXU := Aside0.mk (box55 wr u D3 d3 D4 d4)
                          clear e2 hu HA2
                          go_upto_region 17 with (first | (refine load55 HU.out rfl (.tmp 87) rfl rfl ?_) | (refine store55 (by rfl) #[.string u.f0, .int .i64 u.f1, .int .i64 u.f2, .slice D3 u.f3.length d3, .slice D4 u.f4.length d4] (by rfl) (by simp [Value.oneCell']) (by rfl) (.tmp 8) (.tmp 88) (by rfl) (by rfl) (by rfl) ?_))
                          clear q16
                          generalize wr.alloc (.cells #[.string u.f0, .int .i64 u.f1, .int .i64 u.f2, .slice D3 u.f3.length d3, .slice D4 u.f4.length d4] 55) = wu at *
                          generalize wr.heap.size = Pu at HXU ⊢
                          have g1 := HXW.out.g1
                          have g2 := HXW.out.g2
                          have u1 := HXU.out.g1
                          have u2 := HXU.out.g2
                          by_cases h1 : u.f2 = t.f2
                          · have P1 := Aside0.mk h1
                            have b1 : (u.f2 == t.f2) = true := by rw [beq_iff_eq]; exact h1
                            have b1x : (u.f2 != t.f2) = false := by rw [bne_eq_false_iff_eq]; exact h1
                            clear h1
                            have HC := Aside0.mk (show clash u t = true from by have h1 := P1.out; simp [clash, h1] <;> first | omega | (intros; omega))
                            go_wp2_with fail
                            go_ret
                            exact ⟨by rw [HE.out, HCY.out HC.out]; simp, (HB.out.trans (HW.out.mono HB.out.size)).trans (HWB.out.mono (HB.out.trans (HW.out.mono HB.out.size)).size)⟩
                          · have P1 := Aside0.mk h1
                            have b1 : (u.f2 == t.f2) = false := by rw [beq_eq_false_iff_ne]; exact h1
                            have b1x : (u.f2 != t.f2) = true := by rw [bne_iff_ne]; exact h1
                            clear h1
                            by_cases h2 : t.f1 < u.f1
                            · have P2 := Aside0.mk h2
                              have b2 : decide (t.f1 < u.f1) = true := decide_eq_true h2
                              have b2x : decide (u.f1 < t.f1) = false := decide_eq_false (by omega)
                              clear h2
                              by_cases h3 : t.f2 < u.f2
                              · have P3 := Aside0.mk h3
                                have b3 : decide (t.f2 < u.f2) = true := decide_eq_true h3
                                clear h3
                                have HC := Aside0.mk (show clash u t = true from by have h1 := P1.out; have h2 := P2.out; have h3 := P3.out; simp [clash, h1, h2, h3] <;> first | omega | (intros; omega))
                                go_wp2_with fail
                                go_ret
                                exact ⟨by rw [HE.out, HCY.out HC.out]; simp, (HB.out.trans (HW.out.mono HB.out.size)).trans (HWB.out.mono (HB.out.trans (HW.out.mono HB.out.size)).size)⟩
                              · have P3 := Aside0.mk h3
                                have b3 : decide (t.f2 < u.f2) = false := decide_eq_false h3
                                clear h3
                                have HC := Aside0.mk (show clash u t = false from by have h1 := P1.out; have h2 := P2.out; have h3 := P3.out; simp [clash, h1, h2, h3] <;> first | omega | (intros; omega))
                                go_wp2_with fail
                                go_roundw
                                case rel => exact ⟨j + 1, HLT.out, by go_num, ⟨HW.out.trans (HWB.out.mono HW.out.size)⟩, ⟨HCN.out HC.out⟩⟩
                                case measure => have := HLT.out; simp [intOf]; omega
                            · have P2 := Aside0.mk h2
                              have b2 : decide (t.f1 < u.f1) = false := decide_eq_false h2
                              clear h2
                              by_cases h4 : u.f1 < t.f1
                              · have P4 := Aside0.mk h4
                                have b4 : decide (u.f1 < t.f1) = true := decide_eq_true h4
                                have b4x : decide (t.f1 < u.f1) = false := decide_eq_false (by omega)
                                clear h4
                                by_cases h5 : u.f2 < t.f2
                                · have P5 := Aside0.mk h5
                                  have b5 : decide (u.f2 < t.f2) = true := decide_eq_true h5
                                  clear h5
                                  have HC := Aside0.mk (show clash u t = true from by have h1 := P1.out; have h2 := P2.out; have h4 := P4.out; have h5 := P5.out; simp [clash, h1, h2, h4, h5] <;> first | omega | (intros; omega))
                                  go_wp2_with fail
                                  go_ret
                                  exact ⟨by rw [HE.out, HCY.out HC.out]; simp, (HB.out.trans (HW.out.mono HB.out.size)).trans (HWB.out.mono (HB.out.trans (HW.out.mono HB.out.size)).size)⟩
                                · have P5 := Aside0.mk h5
                                  have b5 : decide (u.f2 < t.f2) = false := decide_eq_false h5
                                  clear h5
                                  have HC := Aside0.mk (show clash u t = false from by have h1 := P1.out; have h2 := P2.out; have h4 := P4.out; have h5 := P5.out; simp [clash, h1, h2, h4, h5] <;> first | omega | (intros; omega))
                                  go_wp2_with fail
                                  go_roundw
                                  case rel => exact ⟨j + 1, HLT.out, by go_num, ⟨HW.out.trans (HWB.out.mono HW.out.size)⟩, ⟨HCN.out HC.out⟩⟩
                                  case measure => have := HLT.out; simp [intOf]; omega
                              · have P4 := Aside0.mk h4
                                have b4 : decide (u.f1 < t.f1) = false := decide_eq_false h4
                                clear h4
                                have HC := Aside0.mk (show clash u t = false from by have h1 := P1.out; have h2 := P2.out; have h4 := P4.out; simp [clash, h1, h2, h4] <;> first | omega | (intros; omega))
                                go_wp2_with fail
                                go_roundw
                                case rel => exact ⟨j + 1, HLT.out, by go_num, ⟨HW.out.trans (HWB.out.mono HW.out.size)⟩, ⟨HCN.out HC.out⟩⟩
                                case measure => have := HLT.out; simp [intOf]; omega
                        · have hd : decide ((j : Int) < (i : Int)) = false := decide_eq_false (by omega)
                          have HN := Aside0.mk (show isrClash c.f8 i t = false from clash_no (fun m hm => HR.out m (by omega)))
                          go_wp2_with fail
                          go_ret
                          exact ⟨by rw [HE.out, HN.out] <;> rfl, HB.out.trans (HW.out.mono HB.out.size)⟩
                  · have P1 := Aside0.mk h1
                    have b1 : (t.f1 == 1) = false := by rw [beq_eq_false_iff_ne]; exact h1
                    have b1x : (t.f1 != 1) = true := by rw [bne_iff_ne]; exact h1
                    clear h1
                    replace HE := Aside0.mk (show errF [eIsrVal, eIsrRefs, eIsrRules] c i = if isrClash c.f8 i t then 70 else 0 from by have h1 := P1.out; rw [HE.out]; simp [isrOwn, HNN3.out, HNN4.out, HI0.out, h1] <;> first | omega | (intros; omega))
                    go_wp2_with fail
                    clear q16 q12 g1 g3 g4 HI0
                    go_loopw [7] (fun k wr => ∃ j : Nat, j ≤ i ∧ k = .int .i64 j ∧ Aside0 (Below w7.heap.size w7 wr) ∧ Aside0 (∀ m, m < j → clash (c.f8.getD m z55) t = false)) (fun k _ => i - (intOf k).toNat)
                    case atStart => exact ⟨0, by omega, rfl, ⟨Below.refl _ _⟩, ⟨fun m hm => by omega⟩⟩
                    case round =>
                      obtain ⟨j, hj, rfl, HW, HR⟩ := hrel
                      by_cases hlt : j < i
                      · have hd : decide ((j : Int) < (i : Int)) = true := decide_eq_true (by omega)
                        have HLT := Aside0.mk (Nat.succ_le_of_lt hlt)
                        obtain ⟨u, ad2, D3, d3, D4, d4, hu, e2, HA2, _⟩ := isr_at (HS.out.below HW.out).cf.i j (by omega)
                        have HU := Aside0.mk HA2
                        have HCY := Aside0.mk (fun hc : clash u t = true => show isrClash c.f8 i t = true from clash_yes hlt (by rw [hu]; exact hc))
                        have HCN := Aside0.mk (fun hc : clash u t = false => show ∀ m, m < j + 1 → clash (c.f8.getD m z55) t = false from fun m hm => by
                          rcases Nat.lt_succ_iff_lt_or_eq.mp hm with h1 | rfl
                          · exact HR.out m h1
                          · rw [hu]; exact hc)
                        have q16 := (HS.out.below HW.out).cell16
                        rw [e2] at q16
                        have hj2 : j < c.f8.length := by omega
                        have HWB := Aside0.mk (below_a wr (.cells #[.string u.f0, .int .i64 u.f1, .int .i64 u.f2, .slice D3 u.f3.length d3, .slice D4 u.f4.length d4] 55))
                        have HXW := Aside0.mk ((HX.out.below HW.out).below HWB.out)
                        have HXU := Aside0.mk (box55 wr u D3 d3 D4 d4)
                        clear e2 hu HA2
                        go_upto_region 17 with (first | (refine load55 HU.out rfl (.tmp 87) rfl rfl ?_) | (refine store55 (by rfl) #[.string u.f0, .int .i64 u.f1, .int .i64 u.f2, .slice D3 u.f3.length d3, .slice D4 u.f4.length d4] (by rfl) (by simp [Value.oneCell']) (by rfl) (.tmp 8) (.tmp 88) (by rfl) (by rfl) (by rfl) ?_))
                        clear q16
                        generalize wr.alloc (.cells #[.string u.f0, .int .i64 u.f1, .int .i64 u.f2, .slice D3 u.f3.length d3, .slice D4 u.f4.length d4] 55) = wu at *
                        generalize wr.heap.size = Pu at HXU ⊢
                        have g1 := HXW.out.g1
                        have g2 := HXW.out.g2
                        have u1 := HXU.out.g1
                        have u2 := HXU.out.g2
                        by_cases h1 : u.f2 = t.f2
                        · have P1 := Aside0.mk h1
                          have b1 : (u.f2 == t.f2) = true := by rw [beq_iff_eq]; exact h1
                          have b1x : (u.f2 != t.f2) = false := by rw [bne_eq_false_iff_eq]; exact h1
                          clear h1
                          have HC := Aside0.mk (show clash u t = true from by have h1 := P1.out; simp [clash, h1] <;> first | omega | (intros; omega))
                          go_wp2_with fail
                          go_ret
                          exact ⟨by rw [HE.out, HCY.out HC.out]; simp, (HB.out.trans (HW.out.mono HB.out.size)).trans (HWB.out.mono (HB.out.trans (HW.out.mono HB.out.size)).size)⟩
                        · have P1 := Aside0.mk h1
                          have b1 : (u.f2 == t.f2) = false := by rw [beq_eq_false_iff_ne]; exact h1
                          have b1x : (u.f2 != t.f2) = true := by rw [bne_iff_ne]; exact h1
                          clear h1
                          by_cases h2 : t.f1 < u.f1
                          · have P2 := Aside0.mk h2
                            have b2 : decide (t.f1 < u.f1) = true := decide_eq_true h2
                            have b2x : decide (u.f1 < t.f1) = false := decide_eq_false (by omega)
                            clear h2
                            by_cases h3 : t.f2 < u.f2
                            · have P3 := Aside0.mk h3
                              have b3 : decide (t.f2 < u.f2) = true := decide_eq_true h3
                              clear h3
                              have HC := Aside0.mk (show clash u t = true from by have h1 := P1.out; have h2 := P2.out; have h3 := P3.out; simp [clash, h1, h2, h3] <;> first | omega | (intros; omega))
                              go_wp2_with fail
                              go_ret
                              exact ⟨by rw [HE.out, HCY.out HC.out]; simp, (HB.out.trans (HW.out.mono HB.out.size)).trans (HWB.out.mono (HB.out.trans (HW.out.mono HB.out.size)).size)⟩
                            · have P3 := Aside0.mk h3
                              have b3 : decide (t.f2 < u.f2) = false := decide_eq_false h3
                              clear h3
                              have HC := Aside0.mk (show clash u t = false from by have h1 := P1.out; have h2 := P2.out; have h3 := P3.out; simp [clash, h1, h2, h3] <;> first | omega | (intros; omega))
                              go_wp2_with fail
                              go_roundw
                              case rel => exact ⟨j + 1, HLT.out, by go_num, ⟨HW.out.trans (HWB.out.mono HW.out.size)⟩, ⟨HCN.out HC.out⟩⟩
                              case measure => have := HLT.out; simp [intOf]; omega
                          · have P2 := Aside0.mk h2
                            have b2 : decide (t.f1 < u.f1) = false := decide_eq_false h2
                            clear h2
                            by_cases h4 : u.f1 < t.f1
                            · have P4 := Aside0.mk h4
                              have b4 : decide (u.f1 < t.f1) = true := decide_eq_true h4
                              have b4x : decide (t.f1 < u.f1) = false := decide_eq_false (by omega)
                              clear h4
                              by_cases h5 : u.f2 < t.f2
                              · have P5 := Aside0.mk h5
                                have b5 : decide (u.f2 < t.f2) = true := decide_eq_true h5
                                clear h5
                                have HC := Aside0.mk (show clash u t = true from by have h1 := P1.out; have h2 := P2.out; have h4 := P4.out; have h5 := P5.out; simp [clash, h1, h2, h4, h5] <;> first | omega | (intros; omega))
                                go_wp2_with fail
                                go_ret
                                exact ⟨by rw [HE.out, HCY.out HC.out]; simp, (HB.out.trans (HW.out.mono HB.out.size)).trans (HWB.out.mono (HB.out.trans (HW.out.mono HB.out.size)).size)⟩
                              · have P5 := Aside0.mk h5
                                have b5 : decide (u.f2 < t.f2) = false := decide_eq_false h5
                                clear h5
                                have HC := Aside0.mk (show clash u t = false from by have h1 := P1.out; have h2 := P2.out; have h4 := P4.out; have h5 := P5.out; simp [clash, h1, h2, h4, h5] <;> first | omega | (intros; omega))
                                go_wp2_with fail
                                go_roundw
                                case rel => exact ⟨j + 1, HLT.out, by go_num, ⟨HW.out.trans (HWB.out.mono HW.out.size)⟩, ⟨HCN.out HC.out⟩⟩
                                case measure => have := HLT.out; simp [intOf]; omega
                            · have P4 := Aside0.mk h4
                              have b4 : decide (u.f1 < t.f1) = false := decide_eq_false h4
                              clear h4
                              have HC := Aside0.mk (show clash u t = false from by have h1 := P1.out; have h2 := P2.out; have h4 := P4.out; simp [clash, h1, h2, h4] <;> first | omega | (intros; omega))
                              go_wp2_with fail
                              go_roundw
                              case rel => exact ⟨j + 1, HLT.out, by go_num, ⟨HW.out.trans (HWB.out.mono HW.out.size)⟩, ⟨HCN.out HC.out⟩⟩
                              case measure => have := HLT.out; simp [intOf]; omega
                      · have hd : decide ((j : Int) < (i : Int)) = false := decide_eq_false (by omega)
                        have HN := Aside0.mk (show isrClash c.f8 i t = false from clash_no (fun m hm => HR.out m (by omega)))
                        go_wp2_with fail
                        go_ret
                        exact ⟨by rw [HE.out, HN.out] <;> rfl, HB.out.trans (HW.out.mono HB.out.size)⟩
end Go.Proofs.YthckjbmgeidkgaaDoor.XA
/- the document's rows: tasks. -/
namespace Go.Proofs.YthckjbmgeidkgaaDoor.XA
set_option linter.unusedVariables false
set_option linter.unusedSimpArgs false
open Go.RowKit Go.WideMaps Go.Maps Go.Proofs.YthckjbmgeidkgaaDoorW.PrintWords Go.Proofs.YthckjbmgeidkgaaDoorW.PrintLast Go.Proofs.YthckjbmgeidkgaaDoorW.PrintMore
theorem box49 (w : World) (t : S49) (A4 : Option Addr) (c4 : Nat) (A5 : Option Addr) (c5 : Nat) (A6 : Option Addr) (c6 : Nat) (A7 : Option Addr) (c7 : Nat) : At49 (w.alloc (.cells #[.string t.f0, .int .i64 t.f1, .bool t.f2, .int .i64 t.f3, .slice A4 t.f4.length c4, .slice A5 t.f5.length c5, .slice A6 t.f6.length c6, .slice A7 t.f7.length c7] 49)) ⟨w.heap.size, 0, none⟩ t A4 c4 A5 c5 A6 c6 A7 c7 := ⟨fun j v hj => box_at (cs := [.string t.f0, .int .i64 t.f1, .bool t.f2, .int .i64 t.f3, .slice A4 t.f4.length c4, .slice A5 t.f5.length c5, .slice A6 t.f6.length c6, .slice A7 t.f7.length c7]) (e := 49) j v hj⟩
set_option maxRecDepth 1000000 in
set_option maxHeartbeats 4000000 in
theorem task_calls : RChkN 72 (fun c => c.f3.length) (errF [eTaskVal, eTaskRefs, eTaskOver, eTaskRules]) := by
  intro w V c i h hnm hi
  clear hnm
  have HS := Aside0.mk (At.made h)
  have HB := Aside0.mk (below_a w (.cells (arr V c) 33))
  have HE := Aside0.mk (show errF [eTaskVal, eTaskRefs, eTaskOver, eTaskRules] c i = if taskVal (c.f3.getD i z49) = false then 74 else if taskRefs c (c.f3.getD i z49) = false then 73 else if 32 < (c.f3.getD i z49).f6.length then 71 else if taskRules c (c.f3.getD i z49) = false then 70 else 0 from by
    unfold errF errF errF errF errF eTaskVal eTaskRefs eTaskOver eTaskRules
    by_cases hl : (c.f3.getD i z49).f6.length ≤ 32
    · rw [if_pos hl, if_neg (show ¬ 32 < (c.f3.getD i z49).f6.length by omega)]
      cases taskVal (c.f3.getD i z49) <;> cases taskRefs c (c.f3.getD i z49) <;> cases taskRules c (c.f3.getD i z49) <;> rfl
    · rw [if_neg hl, if_pos (show 32 < (c.f3.getD i z49).f6.length by omega)]
      cases taskVal (c.f3.getD i z49) <;> cases taskRefs c (c.f3.getD i z49) <;> cases taskRules c (c.f3.getD i z49) <;> rfl)
  clear h
  go_enter Tryd.func72, Tryd.ntmps72
  unfold arr at *
  go_upto_region 1 with fail
  generalize w.alloc (.cells #[.string c.f0, .string c.f1.f0, .bool c.f1.f1, .bool c.f1.f2, .bool c.f1.f3, .bool c.f1.f4, .bool c.f1.f5, .bool c.f1.f6, .bool c.f1.f7, .bool c.f1.f8, .slice V.a10 c.f2.length V.k10, .slice V.a11 c.f3.length V.k11, .slice V.a12 c.f4.length V.k12, .slice V.a13 c.f5.length V.k13, .slice V.a14 c.f6.length V.k14, .slice V.a15 c.f7.length V.k15, .slice V.a16 c.f8.length V.k16, .slice V.a17 c.f9.length V.k17] 33) = w1 at *
  obtain ⟨t, ad, A4, c4, A5, c5, A6, c6, A7, c7, ht, e, HA, l4, gg4, l5, gg5, l6, gg6, l7, gg7⟩ := task_at HS.out.cf.t i hi
  have HG4 := Aside0.mk gg4
  have HG5 := Aside0.mk gg5
  have HG6 := Aside0.mk gg6
  have HG7 := Aside0.mk gg7
  have q11 := HS.out.cell11
  rw [e] at q11
  rw [ht] at HE
  have HAX := Aside0.mk HA
  have HX := Aside0.mk (box49 w1 t A4 c4 A5 c5 A6 c6 A7 c7)
  have B1 := below_a w1 (.cells #[.string t.f0, .int .i64 t.f1, .bool t.f2, .int .i64 t.f3, .slice A4 t.f4.length c4, .slice A5 t.f5.length c5, .slice A6 t.f6.length c6, .slice A7 t.f7.length c7] 49)
  replace HB := Aside0.mk (HB.out.trans (B1.mono HB.out.size))
  replace HS := Aside0.mk (HS.out.below B1)
  replace HG4 := Aside0.mk (Kd.C_below HG4.out B1)
  replace HG5 := Aside0.mk (Kd.C_below HG5.out B1)
  replace HG6 := Aside0.mk (Kd.C_below HG6.out B1)
  replace HG7 := Aside0.mk (Kd.C_below HG7.out B1)
  clear ht HA e B1 gg4 gg5 gg6 gg7
  go_upto_region 2 with (first | (refine load49 HAX.out rfl (.tmp 14) rfl rfl ?_) | (refine store49 (by rfl) #[.string t.f0, .int .i64 t.f1, .bool t.f2, .int .i64 t.f3, .slice A4 t.f4.length c4, .slice A5 t.f5.length c5, .slice A6 t.f6.length c6, .slice A7 t.f7.length c7] (by rfl) (by simp [Value.oneCell']) (by rfl) (.tmp 5) (.tmp 15) (by rfl) (by rfl) (by rfl) ?_))
  clear q11 HAX
  generalize w1.alloc (.cells #[.string t.f0, .int .i64 t.f1, .bool t.f2, .int .i64 t.f3, .slice A4 t.f4.length c4, .slice A5 t.f5.length c5, .slice A6 t.f6.length c6, .slice A7 t.f7.length c7] 49) = w2 at *
  generalize w1.heap.size = P at *
  have g1 := HX.out.g1
  have g3 := HX.out.g3
  by_cases h1 : t.f1 < 0
  · have P1 := Aside0.mk h1
    have b1 : decide (t.f1 < 0) = true := decide_eq_true h1
    clear h1
    have HK := Aside0.mk (show errF [eTaskVal, eTaskRefs, eTaskOver, eTaskRules] c i = 74 from by have h1 := P1.out; rw [HE.out]; simp [taskVal, h1] <;> first | omega | (intros; omega))
    go_wp2_with fail
    go_ret
    exact ⟨by rw [HK.out] <;> rfl, HB.out⟩
  · have P1 := Aside0.mk h1
    have b1 : decide (t.f1 < 0) = false := decide_eq_false h1
    clear h1
    by_cases h2 : 63 < t.f1
    · have P2 := Aside0.mk h2
      have b2 : decide (63 < t.f1) = true := decide_eq_true h2
      clear h2
      have HK := Aside0.mk (show errF [eTaskVal, eTaskRefs, eTaskOver, eTaskRules] c i = 74 from by have h1 := P1.out; have h2 := P2.out; rw [HE.out]; simp [taskVal, h1, h2] <;> first | omega | (intros; omega))
      go_wp2_with fail
      go_ret
      exact ⟨by rw [HK.out] <;> rfl, HB.out⟩
    · have P2 := Aside0.mk h2
      have b2 : decide (63 < t.f1) = false := decide_eq_false h2
      clear h2
      by_cases h3 : t.f3 < 1
      · have P3 := Aside0.mk h3
        have b3 : decide (t.f3 < 1) = true := decide_eq_true h3
        clear h3
        have HK := Aside0.mk (show errF [eTaskVal, eTaskRefs, eTaskOver, eTaskRules] c i = 74 from by have h1 := P1.out; have h2 := P2.out; have h3 := P3.out; rw [HE.out]; simp [taskVal, h1, h2, h3] <;> first | omega | (intros; omega))
        go_wp2_with fail
        go_ret
        exact ⟨by rw [HK.out] <;> rfl, HB.out⟩
      · have P3 := Aside0.mk h3
        have b3 : decide (t.f3 < 1) = false := decide_eq_false h3
        clear h3
        by_cases h4 : 255 < t.f3
        · have P4 := Aside0.mk h4
          have b4 : decide (255 < t.f3) = true := decide_eq_true h4
          clear h4
          have HK := Aside0.mk (show errF [eTaskVal, eTaskRefs, eTaskOver, eTaskRules] c i = 74 from by have h1 := P1.out; have h2 := P2.out; have h3 := P3.out; have h4 := P4.out; rw [HE.out]; simp [taskVal, h1, h2, h3, h4] <;> first | omega | (intros; omega))
          go_wp2_with fail
          go_ret
          exact ⟨by rw [HK.out] <;> rfl, HB.out⟩
        · have P4 := Aside0.mk h4
          have b4 : decide (255 < t.f3) = false := decide_eq_false h4
          clear h4
          replace HE := Aside0.mk (show errF [eTaskVal, eTaskRefs, eTaskOver, eTaskRules] c i = if taskRefs c t = false then 73 else if 32 < t.f6.length then 71 else if taskRules c t = false then 70 else 0 from by have h1 := P1.out; have h2 := P2.out; have h3 := P3.out; have h4 := P4.out; rw [HE.out, if_neg (by simp [taskVal, h1, h2, h3, h4] <;> omega)])
          go_upto_region 4 with fail
          clear g1 g3
          have g4 := HX.out.g4
          have q10 := HS.out.cell10
          go_wp2_with fail
          refine (rises_calls A4 c4 t.f4 c.f2.length w2 HG4.out l4).mono ?_
          rintro e w3 ⟨rfl, B5⟩
          replace HX := Aside0.mk (HX.out.below B5)
          replace HS := Aside0.mk (HS.out.below B5)
          replace HB := Aside0.mk (HB.out.trans ((B5).mono HB.out.size))
          replace HG4 := Aside0.mk (Kd.C_below HG4.out (B5))
          replace HG5 := Aside0.mk (Kd.C_below HG5.out (B5))
          replace HG6 := Aside0.mk (Kd.C_below HG6.out (B5))
          replace HG7 := Aside0.mk (Kd.C_below HG7.out (B5))
          clear B5
          clear g4 q10
          rcases h5 : riseB c.f2.length t.f4 with _ | _
          · have P5 := Aside0.mk h5
            have b5 := h5
            clear h5
            have HK := Aside0.mk (show errF [eTaskVal, eTaskRefs, eTaskOver, eTaskRules] c i = 73 from by have h1 := P1.out; have h2 := P2.out; have h3 := P3.out; have h4 := P4.out; have h5 := P5.out; rw [HE.out]; simp [taskRefs, h1, h2, h3, h4, h5] <;> first | omega | (intros; omega))
            go_wp2_with fail
            go_ret
            exact ⟨by rw [HK.out] <;> rfl, HB.out⟩
          · have P5 := Aside0.mk h5
            have b5 := h5
            clear h5
            have g5 := HX.out.g5
            have q12 := HS.out.cell12
            go_wp2_with fail
            refine (rises_calls A5 c5 t.f5 c.f4.length w3 HG5.out l5).mono ?_
            rintro e w4 ⟨rfl, B5⟩
            replace HX := Aside0.mk (HX.out.below B5)
            replace HS := Aside0.mk (HS.out.below B5)
            replace HB := Aside0.mk (HB.out.trans ((B5).mono HB.out.size))
            replace HG4 := Aside0.mk (Kd.C_below HG4.out (B5))
            replace HG5 := Aside0.mk (Kd.C_below HG5.out (B5))
            replace HG6 := Aside0.mk (Kd.C_below HG6.out (B5))
            replace HG7 := Aside0.mk (Kd.C_below HG7.out (B5))
            clear B5
            clear g5 q12
            rcases h6 : riseB c.f4.length t.f5 with _ | _
            · have P6 := Aside0.mk h6
              have b6 := h6
              clear h6
              have HK := Aside0.mk (show errF [eTaskVal, eTaskRefs, eTaskOver, eTaskRules] c i = 73 from by have h1 := P1.out; have h2 := P2.out; have h3 := P3.out; have h4 := P4.out; have h5 := P5.out; have h6 := P6.out; rw [HE.out]; simp [taskRefs, h1, h2, h3, h4, h5, h6] <;> first | omega | (intros; omega))
              go_wp2_with fail
              go_ret
              exact ⟨by rw [HK.out] <;> rfl, HB.out⟩
            · have P6 := Aside0.mk h6
              have b6 := h6
              clear h6
              have g6 := HX.out.g6
              have q13 := HS.out.cell13
              go_wp2_with fail
              refine (rises_calls A6 c6 t.f6 c.f5.length w4 HG6.out l6).mono ?_
              rintro e w5 ⟨rfl, B5⟩
              replace HX := Aside0.mk (HX.out.below B5)
              replace HS := Aside0.mk (HS.out.below B5)
              replace HB := Aside0.mk (HB.out.trans ((B5).mono HB.out.size))
              replace HG4 := Aside0.mk (Kd.C_below HG4.out (B5))
              replace HG5 := Aside0.mk (Kd.C_below HG5.out (B5))
              replace HG6 := Aside0.mk (Kd.C_below HG6.out (B5))
              replace HG7 := Aside0.mk (Kd.C_below HG7.out (B5))
              clear B5
              clear g6 q13
              rcases h7 : riseB c.f5.length t.f6 with _ | _
              · have P7 := Aside0.mk h7
                have b7 := h7
                clear h7
                have HK := Aside0.mk (show errF [eTaskVal, eTaskRefs, eTaskOver, eTaskRules] c i = 73 from by have h1 := P1.out; have h2 := P2.out; have h3 := P3.out; have h4 := P4.out; have h5 := P5.out; have h6 := P6.out; have h7 := P7.out; rw [HE.out]; simp [taskRefs, h1, h2, h3, h4, h5, h6, h7] <;> first | omega | (intros; omega))
                go_wp2_with fail
                go_ret
                exact ⟨by rw [HK.out] <;> rfl, HB.out⟩
              · have P7 := Aside0.mk h7
                have b7 := h7
                clear h7
                have g7 := HX.out.g7
                have q17 := HS.out.cell17
                go_wp2_with fail
                refine (rises_calls A7 c7 t.f7 c.f9.length w5 HG7.out l7).mono ?_
                rintro e w6 ⟨rfl, B5⟩
                replace HX := Aside0.mk (HX.out.below B5)
                replace HS := Aside0.mk (HS.out.below B5)
                replace HB := Aside0.mk (HB.out.trans ((B5).mono HB.out.size))
                replace HG4 := Aside0.mk (Kd.C_below HG4.out (B5))
                replace HG5 := Aside0.mk (Kd.C_below HG5.out (B5))
                replace HG6 := Aside0.mk (Kd.C_below HG6.out (B5))
                replace HG7 := Aside0.mk (Kd.C_below HG7.out (B5))
                clear B5
                clear g7 q17
                rcases h8 : riseB c.f9.length t.f7 with _ | _
                · have P8 := Aside0.mk h8
                  have b8 := h8
                  clear h8
                  have HK := Aside0.mk (show errF [eTaskVal, eTaskRefs, eTaskOver, eTaskRules] c i = 73 from by have h1 := P1.out; have h2 := P2.out; have h3 := P3.out; have h4 := P4.out; have h5 := P5.out; have h6 := P6.out; have h7 := P7.out; have h8 := P8.out; rw [HE.out]; simp [taskRefs, h1, h2, h3, h4, h5, h6, h7, h8] <;> first | omega | (intros; omega))
                  go_wp2_with fail
                  go_ret
                  exact ⟨by rw [HK.out] <;> rfl, HB.out⟩
                · have P8 := Aside0.mk h8
                  have b8 := h8
                  clear h8
                  have HR5 := Aside0.mk (show riseB c.f4.length t.f5 = true from by have h1 := P1.out; have h2 := P2.out; have h3 := P3.out; have h4 := P4.out; have h5 := P5.out; have h6 := P6.out; have h7 := P7.out; have h8 := P8.out; assumption)
                  have HR6 := Aside0.mk (show riseB c.f5.length t.f6 = true from by have h1 := P1.out; have h2 := P2.out; have h3 := P3.out; have h4 := P4.out; have h5 := P5.out; have h6 := P6.out; have h7 := P7.out; have h8 := P8.out; assumption)
                  replace HE := Aside0.mk (show errF [eTaskVal, eTaskRefs, eTaskOver, eTaskRules] c i = if 32 < t.f6.length then 71 else if taskRules c t = false then 70 else 0 from by have h1 := P1.out; have h2 := P2.out; have h3 := P3.out; have h4 := P4.out; have h5 := P5.out; have h6 := P6.out; have h7 := P7.out; have h8 := P8.out; rw [HE.out]; simp [taskRefs, h1, h2, h3, h4, h5, h6, h7, h8] <;> omega)
                  clear HG4 HG7 l4 l5 l6 l7
                  have g6 := HX.out.g6
                  have g3 := HX.out.g3
                  have hnn6 := HG6.out.2.1
                  by_cases h9 : 32 < t.f6.length
                  · have P9 := Aside0.mk h9
                    have b9 : decide ((32 : Int) < (t.f6.length : Int)) = true := decide_eq_true (by omega)
                    clear h9
                    have HK := Aside0.mk (show errF [eTaskVal, eTaskRefs, eTaskOver, eTaskRules] c i = 71 from by have h1 := P1.out; have h2 := P2.out; have h3 := P3.out; have h4 := P4.out; have h5 := P5.out; have h6 := P6.out; have h7 := P7.out; have h8 := P8.out; have h9 := P9.out; rw [HE.out]; simp [eq_self, h1, h2, h3, h4, h5, h6, h7, h8, h9] <;> first | omega | (intros; omega))
                    go_wp2_with fail
                    go_ret
                    exact ⟨by rw [HK.out] <;> rfl, HB.out⟩
                  · have P9 := Aside0.mk h9
                    have b9 : decide ((32 : Int) < (t.f6.length : Int)) = false := decide_eq_false (by omega)
                    clear h9
                    replace HE := Aside0.mk (show errF [eTaskVal, eTaskRefs, eTaskOver, eTaskRules] c i = if taskRules c t = false then 70 else 0 from by rw [HE.out, if_neg (by have h1 := P1.out; have h2 := P2.out; have h3 := P3.out; have h4 := P4.out; have h5 := P5.out; have h6 := P6.out; have h7 := P7.out; have h8 := P8.out; have h9 := P9.out; assumption)])
                    by_cases h10 : 0 < t.f6.length
                    · have P10 := Aside0.mk h10
                      have b10 : decide ((0 : Int) < (t.f6.length : Int)) = true := decide_eq_true (by omega)
                      have b10x : 0 < t.f6.length := h10
                      clear h10
                      by_cases h11 : t.f3 = 1
                      · have P11 := Aside0.mk h11
                        have b11 : (t.f3 == 1) = true := by rw [beq_iff_eq]; exact h11
                        have b11x : (t.f3 != 1) = false := by rw [bne_eq_false_iff_eq]; exact h11
                        clear h11
                        have HON := Aside0.mk (show (t.f6.length == 0 || t.f3 == 1) = true from by have h1 := P1.out; have h2 := P2.out; have h3 := P3.out; have h4 := P4.out; have h5 := P5.out; have h6 := P6.out; have h7 := P7.out; have h8 := P8.out; have h9 := P9.out; have h10 := P10.out; have h11 := P11.out; simp [eq_self, h1, h2, h3, h4, h5, h6, h7, h8, h9, h10, h11])
                        have HM5 := Aside0.mk (show ∀ x ∈ t.f5, 0 ≤ x ∧ x < c.f4.length from rise_mem HR5.out)
                        have HM6 := Aside0.mk (show ∀ x ∈ t.f6, 0 ≤ x ∧ x < c.f5.length from rise_mem HR6.out)
                        go_wp2_with fail
                        clear HR5 HR6 g6 g3 b9 b10 b10x
                        have g5 := HX.out.g5
                        have q12 := HS.out.cell12
                        have hlen5 := HG5.out.2.1
                        have hlen6 := HG6.out.2.1
                        go_loopw [6, 7] (fun n k wr => ∃ j : Nat, j ≤ t.f5.length ∧ k = .int .i64 j ∧ n = .int .i64 (cntI c.f4 (t.f5.take j)) ∧ Aside0 (Below w6.heap.size w6 wr)) (fun _ k _ => t.f5.length - (intOf k).toNat)
                        case atStart => exact ⟨0, by omega, rfl, rfl, ⟨Below.refl _ _⟩⟩
                        case round =>
                          obtain ⟨j, hj, rfl, rfl, HW⟩ := hrel
                          replace q12 := (HS.out.below HW.out).cell12
                          replace g5 := (HX.out.below HW.out).g5
                          by_cases hlt : j < t.f5.length
                          · have hd : decide ((j : Int) < (t.f5.length : Int)) = true := decide_eq_true (by omega)
                            have HLT := Aside0.mk (Nat.succ_le_of_lt hlt)
                            obtain ⟨a5, e5, hc0⟩ := (Kd.reads_of_C (d := (0 : Int)) (Kd.C_below HG5.out HW.out)).2.2 (by omega)
                            have hx := hc0 j hlt
                            have hst := cnt_step c.f4 t.f5 j hlt
                            have hle := cnt_le c.f4 (t.f5.take j)
                            rw [List.length_take] at hle
                            have hmem : t.f5.getD j 0 ∈ t.f5 := getD_mem hlt
                            obtain ⟨h0, h1⟩ := HM5.out _ hmem
                            obtain ⟨p, hp⟩ := Int.eq_ofNat_of_zero_le h0
                            rw [hp] at hx hst h1
                            rw [show ((p : Int)).toNat = p from Int.toNat_natCast p] at hst
                            have hpl : p < c.f4.length := by omega
                            obtain ⟨u, ad2, hu, e2, HU⟩ := res_at (HS.out.below HW.out).cf.r p hpl
                            rw [e2] at q12
                            rw [e5] at g5
                            have k1 := HU.g1
                            unfold kindR at hst
                            rw [hu] at hst
                            have HST := Aside0.mk hst
                            have hle2 : cntI c.f4 (t.f5.take j) ≤ j := by omega
                            clear hc0 hmem h0 h1 hp hst hle hu e2 e5 HU
                            generalize cntI c.f4 (t.f5.take j) = n at *
                            generalize u.f1 = kd at *
                            go_wp2_with fail
                            go_quiet (fail)
                            by_cases ck : kd = 3
                            · have cb : (kd == 3) = true := by simp [ck]
                              have HN := Aside0.mk (show cntI c.f4 (t.f5.take (j + 1)) = n + 1 by rw [HST.out, if_pos ck])
                              have hw : IntKind.i64.wrap ((n : Int) + 1) = (n : Int) + 1 := IntWalk.i64_in _ (by omega)
                              clear ck HST
                              go_wp2_with fail
                              go_roundw
                              case rel => exact ⟨j + 1, HLT.out, by go_num, by rw [HN.out]; go_num, ⟨HW.out.trans ((drewN_below _ _).mono HW.out.size)⟩⟩
                              case measure => have := HLT.out; simp [intOf]; omega
                            · have cb : (kd == 3) = false := by simp [ck]
                              have HN := Aside0.mk (show cntI c.f4 (t.f5.take (j + 1)) = n by rw [HST.out, if_neg ck]; rfl)
                              clear ck HST
                              go_wp2_with fail
                              go_roundw
                              case rel => exact ⟨j + 1, HLT.out, by go_num, by rw [HN.out], ⟨HW.out.trans ((drewN_below _ _).mono HW.out.size)⟩⟩
                              case measure => have := HLT.out; simp [intOf]; omega
                          · have hd : decide ((j : Int) < (t.f5.length : Int)) = false := decide_eq_false (by omega)
                            have HTK := Aside0.mk (show t.f5.take j = t.f5 from List.take_of_length_le (by omega))
                            rw [HTK.out]
                            replace HX := Aside0.mk (HX.out.below HW.out)
                            replace HS := Aside0.mk (HS.out.below HW.out)
                            replace HB := Aside0.mk (HB.out.trans (HW.out.mono HB.out.size))
                            replace HG6 := Aside0.mk (Kd.C_below HG6.out HW.out)
                            clear HTK HW HG5 HM5 q12 hj hlen5
                            generalize wr = w7 at *
                            by_cases hc : cntI c.f4 t.f5 ≤ 1
                            · have hcb : decide ((1 : Int) < (cntI c.f4 t.f5 : Int)) = false := decide_eq_false (by omega)
                              have HC1 := Aside0.mk hc
                              clear hc
                              go_wp2_with fail
                              clear g5 hd
                              obtain ⟨mf, hmf⟩ : ∃ mf, maskF c.f5 0 t.f6 = mf := ⟨_, rfl⟩
                              replace HE := Aside0.mk (show errF [eTaskVal, eTaskRefs, eTaskOver, eTaskRules] c i = if mf.isSome = true then 0 else 70 from by
                                rw [HE.out]
                                unfold taskRules
                                rw [hmf, HON.out]
                                cases mf <;> simp [HC1.out])
                              have HM0 := Aside0.mk (show maskF c.f5 0 (t.f6.drop 0) = mf from hmf)
                              clear hmf HON HC1
                              have q13 := HS.out.cell13
                              have g6 := HX.out.g6
                              go_loopw [8, 9] (fun b k wr => ∃ (j : Nat) (bt : Int), j ≤ t.f6.length ∧ k = .int .i64 j ∧ b = .int .u32 bt ∧ Aside0 (Below w7.heap.size w7 wr) ∧ Aside0 (maskF c.f5 bt (t.f6.drop j) = mf)) (fun _ k _ => t.f6.length - (intOf k).toNat)
                              case atStart => exact ⟨0, 0, by omega, rfl, rfl, ⟨Below.refl _ _⟩, HM0⟩
                              case round =>
                                clear HM0
                                obtain ⟨j, bt, hj, rfl, rfl, HW, HMF⟩ := hrel
                                replace q13 := (HS.out.below HW.out).cell13
                                replace g6 := (HX.out.below HW.out).g6
                                by_cases hlt : j < t.f6.length
                                · have hd : decide ((j : Int) < (t.f6.length : Int)) = true := decide_eq_true (by omega)
                                  have HLT := Aside0.mk (Nat.succ_le_of_lt hlt)
                                  obtain ⟨a6, e6, hc0⟩ := (Kd.reads_of_C (d := (0 : Int)) (Kd.C_below HG6.out HW.out)).2.2 (by omega)
                                  have hx := hc0 j hlt
                                  have hmem : t.f6.getD j 0 ∈ t.f6 := getD_mem hlt
                                  obtain ⟨h0, h1⟩ := HM6.out _ hmem
                                  obtain ⟨p, hp⟩ := Int.eq_ofNat_of_zero_le h0
                                  replace HMF := Aside0.mk ((maskF_drop c.f5 bt t.f6 j hlt).symm.trans HMF.out)
                                  rw [hp] at hx HMF h1
                                  rw [show ((p : Int)).toNat = p from Int.toNat_natCast p] at HMF
                                  have hpl : p < c.f5.length := by omega
                                  obtain ⟨u, ad2, hu, e2, HU⟩ := evt_at (HS.out.below HW.out).cf.e p hpl
                                  rw [e2] at q13
                                  rw [e6] at g6
                                  have k1 := HU.g1
                                  unfold maskOf at HMF
                                  rw [hu] at HMF
                                  clear hc0 hmem h0 h1 hp hu e2 e6 HU
                                  generalize u.f1 = mk at *
                                  go_wp2_with fail
                                  go_quiet (fail)
                                  by_cases hz : bits .and .u32 bt mk = 0
                                  · have hb : (bits .and .u32 bt mk != 0) = false := by simp [hz]
                                    have HMN := Aside0.mk (show maskF c.f5 (bits .or .u32 bt mk) (t.f6.drop (j + 1)) = mf from by have := HMF.out; rw [if_neg (fun e => e hz)] at this; exact this)
                                    clear hz HMF
                                    go_wp2_with fail
                                    go_roundw
                                    case rel => exact ⟨j + 1, _, HLT.out, by go_num, rfl, ⟨HW.out.trans ((drewN_below _ _).mono HW.out.size)⟩, HMN⟩
                                    case measure => have := HLT.out; simp [intOf]; omega
                                  · have hb : (bits .and .u32 bt mk != 0) = true := by simp [hz]
                                    have HMN := Aside0.mk (show mf = none from by have := HMF.out; rw [if_pos hz] at this; exact this.symm)
                                    clear hz HMF
                                    go_wp2_with fail
                                    go_ret
                                    exact ⟨by rw [HE.out, HMN.out] <;> rfl, HB.out.trans ((HW.out.trans ((drewN_below _ _).mono HW.out.size)).mono HB.out.size)⟩
                                · have hd : decide ((j : Int) < (t.f6.length : Int)) = false := decide_eq_false (by omega)
                                  have HSm := Aside0.mk (show mf = some bt from by have := HMF.out; rw [List.drop_of_length_le (by omega)] at this; exact this.symm)
                                  go_wp2_with fail
                                  go_ret
                                  exact ⟨by rw [HE.out, HSm.out] <;> rfl, HB.out.trans (HW.out.mono HB.out.size)⟩
                            · have hcb : decide ((1 : Int) < (cntI c.f4 t.f5 : Int)) = true := decide_eq_true (by omega)
                              have HK := Aside0.mk (show errF [eTaskVal, eTaskRefs, eTaskOver, eTaskRules] c i = 70 from by
                                rw [HE.out]
                                unfold taskRules
                                rw [decide_eq_false hc]
                                simp)
                              clear hc
                              go_wp2_with fail
                              go_ret
                              exact ⟨by rw [HK.out] <;> rfl, HB.out⟩
                      · have P11 := Aside0.mk h11
                        have b11 : (t.f3 == 1) = false := by rw [beq_eq_false_iff_ne]; exact h11
                        have b11x : (t.f3 != 1) = true := by rw [bne_iff_ne]; exact h11
                        clear h11
                        have HK := Aside0.mk (show errF [eTaskVal, eTaskRefs, eTaskOver, eTaskRules] c i = 70 from by have h1 := P1.out; have h2 := P2.out; have h3 := P3.out; have h4 := P4.out; have h5 := P5.out; have h6 := P6.out; have h7 := P7.out; have h8 := P8.out; have h9 := P9.out; have h10 := P10.out; have h11 := P11.out; rw [HE.out]; unfold taskRules; rw [show (t.f6.length == 0 || t.f3 == 1) = false from by rw [Bool.or_eq_false_iff, beq_eq_false_iff_ne, beq_eq_false_iff_ne]; exact ⟨by omega, by assumption⟩]; simp)
                        go_wp2_with fail
                        go_ret
                        exact ⟨by rw [HK.out] <;> rfl, HB.out⟩
                    · have P10 := Aside0.mk h10
                      have b10 : decide ((0 : Int) < (t.f6.length : Int)) = false := decide_eq_false (by omega)
                      have b10x : ¬ 0 < t.f6.length := h10
                      clear h10
                      have HON := Aside0.mk (show (t.f6.length == 0 || t.f3 == 1) = true from by have h1 := P1.out; have h2 := P2.out; have h3 := P3.out; have h4 := P4.out; have h5 := P5.out; have h6 := P6.out; have h7 := P7.out; have h8 := P8.out; have h9 := P9.out; have h10 := P10.out; rw [show (t.f6.length == 0) = true from by rw [beq_iff_eq]; omega]; rfl)
                      have HM5 := Aside0.mk (show ∀ x ∈ t.f5, 0 ≤ x ∧ x < c.f4.length from rise_mem HR5.out)
                      have HM6 := Aside0.mk (show ∀ x ∈ t.f6, 0 ≤ x ∧ x < c.f5.length from rise_mem HR6.out)
                      go_wp2_with fail
                      clear HR5 HR6 g6 g3 b9 b10 b10x
                      have g5 := HX.out.g5
                      have q12 := HS.out.cell12
                      have hlen5 := HG5.out.2.1
                      have hlen6 := HG6.out.2.1
                      go_loopw [6, 7] (fun n k wr => ∃ j : Nat, j ≤ t.f5.length ∧ k = .int .i64 j ∧ n = .int .i64 (cntI c.f4 (t.f5.take j)) ∧ Aside0 (Below w6.heap.size w6 wr)) (fun _ k _ => t.f5.length - (intOf k).toNat)
                      case atStart => exact ⟨0, by omega, rfl, rfl, ⟨Below.refl _ _⟩⟩
                      case round =>
                        obtain ⟨j, hj, rfl, rfl, HW⟩ := hrel
                        replace q12 := (HS.out.below HW.out).cell12
                        replace g5 := (HX.out.below HW.out).g5
                        by_cases hlt : j < t.f5.length
                        · have hd : decide ((j : Int) < (t.f5.length : Int)) = true := decide_eq_true (by omega)
                          have HLT := Aside0.mk (Nat.succ_le_of_lt hlt)
                          obtain ⟨a5, e5, hc0⟩ := (Kd.reads_of_C (d := (0 : Int)) (Kd.C_below HG5.out HW.out)).2.2 (by omega)
                          have hx := hc0 j hlt
                          have hst := cnt_step c.f4 t.f5 j hlt
                          have hle := cnt_le c.f4 (t.f5.take j)
                          rw [List.length_take] at hle
                          have hmem : t.f5.getD j 0 ∈ t.f5 := getD_mem hlt
                          obtain ⟨h0, h1⟩ := HM5.out _ hmem
                          obtain ⟨p, hp⟩ := Int.eq_ofNat_of_zero_le h0
                          rw [hp] at hx hst h1
                          rw [show ((p : Int)).toNat = p from Int.toNat_natCast p] at hst
                          have hpl : p < c.f4.length := by omega
                          obtain ⟨u, ad2, hu, e2, HU⟩ := res_at (HS.out.below HW.out).cf.r p hpl
                          rw [e2] at q12
                          rw [e5] at g5
                          have k1 := HU.g1
                          unfold kindR at hst
                          rw [hu] at hst
                          have HST := Aside0.mk hst
                          have hle2 : cntI c.f4 (t.f5.take j) ≤ j := by omega
                          clear hc0 hmem h0 h1 hp hst hle hu e2 e5 HU
                          generalize cntI c.f4 (t.f5.take j) = n at *
                          generalize u.f1 = kd at *
                          go_wp2_with fail
                          go_quiet (fail)
                          by_cases ck : kd = 3
                          · have cb : (kd == 3) = true := by simp [ck]
                            have HN := Aside0.mk (show cntI c.f4 (t.f5.take (j + 1)) = n + 1 by rw [HST.out, if_pos ck])
                            have hw : IntKind.i64.wrap ((n : Int) + 1) = (n : Int) + 1 := IntWalk.i64_in _ (by omega)
                            clear ck HST
                            go_wp2_with fail
                            go_roundw
                            case rel => exact ⟨j + 1, HLT.out, by go_num, by rw [HN.out]; go_num, ⟨HW.out.trans ((drewN_below _ _).mono HW.out.size)⟩⟩
                            case measure => have := HLT.out; simp [intOf]; omega
                          · have cb : (kd == 3) = false := by simp [ck]
                            have HN := Aside0.mk (show cntI c.f4 (t.f5.take (j + 1)) = n by rw [HST.out, if_neg ck]; rfl)
                            clear ck HST
                            go_wp2_with fail
                            go_roundw
                            case rel => exact ⟨j + 1, HLT.out, by go_num, by rw [HN.out], ⟨HW.out.trans ((drewN_below _ _).mono HW.out.size)⟩⟩
                            case measure => have := HLT.out; simp [intOf]; omega
                        · have hd : decide ((j : Int) < (t.f5.length : Int)) = false := decide_eq_false (by omega)
                          have HTK := Aside0.mk (show t.f5.take j = t.f5 from List.take_of_length_le (by omega))
                          rw [HTK.out]
                          replace HX := Aside0.mk (HX.out.below HW.out)
                          replace HS := Aside0.mk (HS.out.below HW.out)
                          replace HB := Aside0.mk (HB.out.trans (HW.out.mono HB.out.size))
                          replace HG6 := Aside0.mk (Kd.C_below HG6.out HW.out)
                          clear HTK HW HG5 HM5 q12 hj hlen5
                          generalize wr = w7 at *
                          by_cases hc : cntI c.f4 t.f5 ≤ 1
                          · have hcb : decide ((1 : Int) < (cntI c.f4 t.f5 : Int)) = false := decide_eq_false (by omega)
                            have HC1 := Aside0.mk hc
                            clear hc
                            go_wp2_with fail
                            clear g5 hd
                            obtain ⟨mf, hmf⟩ : ∃ mf, maskF c.f5 0 t.f6 = mf := ⟨_, rfl⟩
                            replace HE := Aside0.mk (show errF [eTaskVal, eTaskRefs, eTaskOver, eTaskRules] c i = if mf.isSome = true then 0 else 70 from by
                              rw [HE.out]
                              unfold taskRules
                              rw [hmf, HON.out]
                              cases mf <;> simp [HC1.out])
                            have HM0 := Aside0.mk (show maskF c.f5 0 (t.f6.drop 0) = mf from hmf)
                            clear hmf HON HC1
                            have q13 := HS.out.cell13
                            have g6 := HX.out.g6
                            go_loopw [8, 9] (fun b k wr => ∃ (j : Nat) (bt : Int), j ≤ t.f6.length ∧ k = .int .i64 j ∧ b = .int .u32 bt ∧ Aside0 (Below w7.heap.size w7 wr) ∧ Aside0 (maskF c.f5 bt (t.f6.drop j) = mf)) (fun _ k _ => t.f6.length - (intOf k).toNat)
                            case atStart => exact ⟨0, 0, by omega, rfl, rfl, ⟨Below.refl _ _⟩, HM0⟩
                            case round =>
                              clear HM0
                              obtain ⟨j, bt, hj, rfl, rfl, HW, HMF⟩ := hrel
                              replace q13 := (HS.out.below HW.out).cell13
                              replace g6 := (HX.out.below HW.out).g6
                              by_cases hlt : j < t.f6.length
                              · have hd : decide ((j : Int) < (t.f6.length : Int)) = true := decide_eq_true (by omega)
                                have HLT := Aside0.mk (Nat.succ_le_of_lt hlt)
                                obtain ⟨a6, e6, hc0⟩ := (Kd.reads_of_C (d := (0 : Int)) (Kd.C_below HG6.out HW.out)).2.2 (by omega)
                                have hx := hc0 j hlt
                                have hmem : t.f6.getD j 0 ∈ t.f6 := getD_mem hlt
                                obtain ⟨h0, h1⟩ := HM6.out _ hmem
                                obtain ⟨p, hp⟩ := Int.eq_ofNat_of_zero_le h0
                                replace HMF := Aside0.mk ((maskF_drop c.f5 bt t.f6 j hlt).symm.trans HMF.out)
                                rw [hp] at hx HMF h1
                                rw [show ((p : Int)).toNat = p from Int.toNat_natCast p] at HMF
                                have hpl : p < c.f5.length := by omega
                                obtain ⟨u, ad2, hu, e2, HU⟩ := evt_at (HS.out.below HW.out).cf.e p hpl
                                rw [e2] at q13
                                rw [e6] at g6
                                have k1 := HU.g1
                                unfold maskOf at HMF
                                rw [hu] at HMF
                                clear hc0 hmem h0 h1 hp hu e2 e6 HU
                                generalize u.f1 = mk at *
                                go_wp2_with fail
                                go_quiet (fail)
                                by_cases hz : bits .and .u32 bt mk = 0
                                · have hb : (bits .and .u32 bt mk != 0) = false := by simp [hz]
                                  have HMN := Aside0.mk (show maskF c.f5 (bits .or .u32 bt mk) (t.f6.drop (j + 1)) = mf from by have := HMF.out; rw [if_neg (fun e => e hz)] at this; exact this)
                                  clear hz HMF
                                  go_wp2_with fail
                                  go_roundw
                                  case rel => exact ⟨j + 1, _, HLT.out, by go_num, rfl, ⟨HW.out.trans ((drewN_below _ _).mono HW.out.size)⟩, HMN⟩
                                  case measure => have := HLT.out; simp [intOf]; omega
                                · have hb : (bits .and .u32 bt mk != 0) = true := by simp [hz]
                                  have HMN := Aside0.mk (show mf = none from by have := HMF.out; rw [if_pos hz] at this; exact this.symm)
                                  clear hz HMF
                                  go_wp2_with fail
                                  go_ret
                                  exact ⟨by rw [HE.out, HMN.out] <;> rfl, HB.out.trans ((HW.out.trans ((drewN_below _ _).mono HW.out.size)).mono HB.out.size)⟩
                              · have hd : decide ((j : Int) < (t.f6.length : Int)) = false := decide_eq_false (by omega)
                                have HSm := Aside0.mk (show mf = some bt from by have := HMF.out; rw [List.drop_of_length_le (by omega)] at this; exact this.symm)
                                go_wp2_with fail
                                go_ret
                                exact ⟨by rw [HE.out, HSm.out] <;> rfl, HB.out.trans (HW.out.mono HB.out.size)⟩
                          · have hcb : decide ((1 : Int) < (cntI c.f4 t.f5 : Int)) = true := decide_eq_true (by omega)
                            have HK := Aside0.mk (show errF [eTaskVal, eTaskRefs, eTaskOver, eTaskRules] c i = 70 from by
                              rw [HE.out]
                              unfold taskRules
                              rw [decide_eq_false hc]
                              simp)
                            clear hc
                            go_wp2_with fail
                            go_ret
                            exact ⟨by rw [HK.out] <;> rfl, HB.out⟩
end Go.Proofs.YthckjbmgeidkgaaDoor.XA
