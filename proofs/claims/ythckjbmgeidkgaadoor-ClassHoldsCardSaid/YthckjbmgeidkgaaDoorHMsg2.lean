/- messages: what they begin with, what they do: checks of package class. -/
import Derived.Test.YthckjbmgeidkgaaDoorHMsg
import Derived.Test.YthckjbmgeidkgaaDoorWEqStruct
namespace Go.Proofs.YthckjbmgeidkgaaDoor.XA
set_option linter.unusedVariables false
set_option linter.unusedSimpArgs false
open Go.RowKit Go.WideMaps Go.Maps Go.Proofs.YthckjbmgeidkgaaDoorW.PrintWords Go.Proofs.YthckjbmgeidkgaaDoorW.PrintLast Go.Proofs.YthckjbmgeidkgaaDoorW.PrintMore
def zero58 (x : S58) : Bool := x.f0 == 0 && (x.f1 == 0 && (x.f2 == 0 && x.f3.toList.isEmpty))
theorem eqA58 (d : Nat) (w : World) (x : S58) : (Op.equalIn (d + 2) 58 (.agg #[.int .i64 x.f0, .int .i64 x.f1, .int .i64 x.f2, .string x.f3]) (.agg #[.int .i64 0, .int .i64 0, .int .i64 0, .string ⟨#[]⟩])).run Tryd.prog w = .ok (zero58 x) w := by
  have h : (Op.equalIn (d + 2) 58 (.agg #[.int .i64 x.f0, .int .i64 x.f1, .int .i64 x.f2, .string x.f3]) (.agg #[.int .i64 0, .int .i64 0, .int .i64 0, .string ⟨#[]⟩])).run Tryd.prog w = .ok (x.f0 == 0 && (x.f1 == 0 && (x.f2 == 0 && (x.f3.toList == (⟨#[]⟩ : ByteArray).toList)))) w := by
    refine eqA_of Tryd.underlying58 (by kernel_rfl) ?_
    refine eqf_cons (by rfl) (by go_simp; rfl) (by go_simp; rfl) (by go_simp) ?_
    refine eqf_cons (by rfl) (by go_simp; rfl) (by go_simp; rfl) (by go_simp) ?_
    refine eqf_cons (by rfl) (by go_simp; rfl) (by go_simp; rfl) (by go_simp) ?_
    exact eqf_last (by rfl) (by go_simp; rfl) (by go_simp; rfl) (by go_simp)
  have e : (x.f3.toList == (⟨#[]⟩ : ByteArray).toList) = x.f3.toList.isEmpty := by
    rw [ByteArray.toList_eq ⟨#[]⟩]
    cases x.f3.toList <;> rfl
  rw [e] at h
  exact h
theorem eq58 (w : World) (x : S58) : (binOp .eql 58 (.agg #[.int .i64 x.f0, .int .i64 x.f1, .int .i64 x.f2, .string x.f3]) (.agg #[.int .i64 0, .int .i64 0, .int .i64 0, .string ⟨#[]⟩])).run Tryd.prog w = .ok (.bool (zero58 x)) w := by
  rw [run_eql_struct, eqA58 9998 w x]
  rfl
theorem run_eq58 {o : Oper} {a : Act} (w : World) (s : S58) (x y : Operand) (ho : o.op = .binOp .eql 58 x y 58) (hx : a.eval x = .agg #[.int .i64 s.f0, .int .i64 s.f1, .int .i64 s.f2, .string s.f3]) (hy : a.eval y = .agg #[.int .i64 0, .int .i64 0, .int .i64 0, .string ⟨#[]⟩]) : (execOp a.eval o).run Tryd.prog w = .ok (.value (.bool (zero58 s))) w := by
  have hg := run_eqGuard_agg (P := Tryd.prog) (w := w) .eql 58 x y #[.int .i64 s.f0, .int .i64 s.f1, .int .i64 s.f2, .string s.f3] #[.int .i64 0, .int .i64 0, .int .i64 0, .string ⟨#[]⟩] (by kernel_rfl)
  have hn := eq58 w s
  simp only [execOp, ho, hx, hy]
  simp [hg, hn, Result.andThen]
def eMsgAct (c : S33) (i : Nat) : Int := if (c.f9.getD i z91).f1 = 1 then (if zero58 (c.f9.getD i z91).f6 then 0 else 74) else eAct c (c.f9.getD i z91).f6 0 4
set_option maxRecDepth 1000000 in
set_option maxHeartbeats 4000000 in
theorem msgAct_chk : Chk 64 (fun c => c.f9.length) (fun _ _ => True) eMsgAct := by
  intro w B V c i h hi _
  obtain ⟨t, ad, ht, e, HA⟩ := msg_at h.cf.g i hi
  have q17 := h.cell17
  rw [e] at q17
  have HAX := Aside0.mk HA
  have HX := Aside0.mk h
  have HE := Aside0.mk (show eMsgAct c i = if t.f1 = 1 then (if zero58 t.f6 then 0 else 74) else actV c t.f6.f0 t.f6.f1 t.f6.f2 t.f6.f3 0 4 from by unfold eMsgAct eAct; rw [ht])
  clear h e ht HA
  by_cases k1 : t.f1 = 1
  · have b1 : (t.f1 == 1) = true := by rw [beq_iff_eq]; exact k1
    have HE := Aside0.mk (show eMsgAct c i = if zero58 t.f6 then 0 else 74 from by rw [HE.out, if_pos k1])
    clear k1
    go_enter Tryd.func64, Tryd.ntmps64
    go_wp2_with (first | ((with_reducible refine gate_dst (N := 12) rfl ?_); refine load91 HAX.out rfl (.tmp 11) rfl rfl ?_) | ((with_reducible refine gate_dst (N := 19) rfl ?_); refine Kd.event_run rfl (v := .bool (zero58 t.f6)) (run_eq58 _ t.f6 (.tmp 17) (.tmp 18) rfl rfl rfl) ?_))
    all_goals
      refine (unless_calls _ _ _).mono ?_
      rintro e w' ⟨rfl, rfl⟩
      go_wp2_with fail
      all_goals
        go_ret
        refine ⟨?_, below_a w _⟩
        rw [HE.out]
        refine congrArg (fun z => Ending.returned (Value.int .i64 z)) ?_
        simp [*]
        try omega
  · have b1 : (t.f1 == 1) = false := by rw [beq_eq_false_iff_ne]; exact k1
    have HE := Aside0.mk (show eMsgAct c i = actV c t.f6.f0 t.f6.f1 t.f6.f2 t.f6.f3 0 4 from by rw [HE.out, if_neg k1])
    clear k1
    have H1 := Aside0.mk (HX.out.below (below_a w (.cells #[.string t.f0, .int .i64 t.f1, .int .i64 t.f2, .int .i64 t.f3, .int .u64 t.f4, .int .i64 t.f5, .int .i64 t.f6.f0, .int .i64 t.f6.f1, .int .i64 t.f6.f2, .string t.f6.f3] 91)))
    have HB := Aside0.mk (below_a w (.cells #[.string t.f0, .int .i64 t.f1, .int .i64 t.f2, .int .i64 t.f3, .int .u64 t.f4, .int .i64 t.f5, .int .i64 t.f6.f0, .int .i64 t.f6.f1, .int .i64 t.f6.f2, .string t.f6.f3] 91))
    go_enter Tryd.func64, Tryd.ntmps64
    go_wp2_with (first | ((with_reducible refine gate_dst (N := 12) rfl ?_); refine load91 HAX.out rfl (.tmp 11) rfl rfl ?_))
    generalize w.alloc (.cells #[.string t.f0, .int .i64 t.f1, .int .i64 t.f2, .int .i64 t.f3, .int .u64 t.f4, .int .i64 t.f5, .int .i64 t.f6.f0, .int .i64 t.f6.f1, .int .i64 t.f6.f2, .string t.f6.f3] 91) = w1 at *
    refine (act_calls w1 B V c H1.out t.f6.f0 t.f6.f1 t.f6.f2 t.f6.f3 0 4).mono ?_
    rintro e w2 ⟨rfl, B2⟩
    have HB2 := Aside0.mk (HB.out.trans (B2.mono HB.out.size))
    clear B2
    go_wp2_with fail
    go_ret
    exact ⟨by rw [HE.out] <;> rfl, HB2.out⟩
def initB (n x : Int) : Bool := decide (x ≤ 4294967295) && (decide (8 ≤ n) || decide (n < 0) || x / 2 ^ (8 * n.toNat) == 0)
def eMsgInit (c : S33) (i : Nat) : Int := if (c.f9.getD i z91).f1 = 1 then 0 else if initB (c.f9.getD (c.f9.getD i z91).f3.toNat z91).f2 (c.f9.getD i z91).f4 then 0 else 74
set_option maxRecDepth 1000000 in
set_option maxHeartbeats 4000000 in
theorem msgInit_chk : Chk 63 (fun c => c.f9.length) (fun c i => eMsgFrom c i = 0) eMsgInit := by
  intro w B V c i h hi hpre
  obtain ⟨t, ad, ht, e, HA⟩ := msg_at h.cf.g i hi
  have q17 := h.cell17
  rw [e] at q17
  have HAX := Aside0.mk HA
  have HX := Aside0.mk h
  have HQ := Aside0.mk e
  clear h e HA
  by_cases k1 : t.f1 = 1
  · have b1 : (t.f1 == 1) = true := by rw [beq_iff_eq]; exact k1
    have HE := Aside0.mk (show eMsgInit c i = 0 from by unfold eMsgInit; rw [ht, if_pos k1])
    clear k1 ht hpre
    go_enter Tryd.func63, Tryd.ntmps63
    go_wp2_with (first | ((with_reducible refine gate_dst (N := 13) rfl ?_); refine load91 HAX.out rfl (.tmp 12) rfl rfl ?_))
    go_ret
    refine ⟨?_, below_a w _⟩
    rw [HE.out]
    refine congrArg (fun z => Ending.returned (Value.int .i64 z)) ?_
    simp [*]
    try omega
  · have b1 : (t.f1 == 1) = false := by rw [beq_eq_false_iff_ne]; exact k1
    obtain ⟨p, hp, k3⟩ : ∃ p : Nat, t.f3 = p ∧ p < c.f9.length := by
      unfold eMsgFrom at hpre
      rw [ht] at hpre
      unfold msgFrom at hpre
      rw [b1] at hpre
      split at hpre
      · rename_i hb
        simp at hb
        exact ⟨t.f3.toNat, by omega, by omega⟩
      · omega
    have HP := Aside0.mk hp
    have HE := Aside0.mk (show eMsgInit c i = if initB (c.f9.getD p z91).f2 t.f4 then 0 else 74 from by unfold eMsgInit; rw [ht, if_neg k1, hp, Int.toNat_natCast])
    clear k1 ht hpre hp
    go_enter Tryd.func63, Tryd.ntmps63
    go_wp2_with (first | ((with_reducible refine gate_dst (N := 13) rfl ?_); refine load91 HAX.out rfl (.tmp 12) rfl rfl ?_))
    have HB := Aside0.mk (below_a w (.cells #[.string t.f0, .int .i64 t.f1, .int .i64 t.f2, .int .i64 t.f3, .int .u64 t.f4, .int .i64 t.f5, .int .i64 t.f6.f0, .int .i64 t.f6.f1, .int .i64 t.f6.f2, .string t.f6.f3] 91))
    have y3 : (w.alloc (.cells #[.string t.f0, .int .i64 t.f1, .int .i64 t.f2, .int .i64 t.f3, .int .u64 t.f4, .int .i64 t.f5, .int .i64 t.f6.f0, .int .i64 t.f6.f1, .int .i64 t.f6.f2, .string t.f6.f3] 91)).cell? ⟨w.heap.size, 3, none⟩ = some (.int .i64 t.f3) := by simp
    have y4 : (w.alloc (.cells #[.string t.f0, .int .i64 t.f1, .int .i64 t.f2, .int .i64 t.f3, .int .u64 t.f4, .int .i64 t.f5, .int .i64 t.f6.f0, .int .i64 t.f6.f1, .int .i64 t.f6.f2, .string t.f6.f3] 91)).cell? ⟨w.heap.size, 4, none⟩ = some (.int .u64 t.f4) := by simp
    have q17 := (HB.out.cell (World.block_lt_of_cell? w _ q17)).trans q17
    generalize w.alloc (.cells #[.string t.f0, .int .i64 t.f1, .int .i64 t.f2, .int .i64 t.f3, .int .u64 t.f4, .int .i64 t.f5, .int .i64 t.f6.f0, .int .i64 t.f6.f1, .int .i64 t.f6.f2, .string t.f6.f3] 91) = w1 at *
    have H1 := Aside0.mk (HX.out.below HB.out)
    rw [HP.out] at y3
    obtain ⟨u, ad2, hu, e2, HA2⟩ := msg_at H1.out.cf.g p k3
    have hade : ad2 = ad := by
      have := HQ.out.symm.trans e2
      injection this with this
      exact this.symm
    subst hade
    have g2 := HA2.g2
    rw [hu] at HE
    unfold initB at HE
    clear hu e2 HA2
    generalize u.f2 = n at *
    generalize t.f4 = x at *
    have k3' : (p : Int) < (c.f9.length : Int) := by omega
    have b3 : decide ((p : Int) < (c.f9.length : Int)) = true := decide_eq_true k3'
    go_wp2_with fail
    go_quiet (fail)
    by_cases n0 : n < 0
    · have d0 : decide (n < 0) = true := decide_eq_true n0
      have d8 : decide (8 ≤ n) = false := decide_eq_false (by omega)
      have HE := Aside0.mk (show eMsgInit c i = if decide (x ≤ 4294967295) then 0 else 74 from by rw [HE.out, d0, d8]; simp)
      clear n0
      go_wp2_with fail
      all_goals
        refine (unless_calls _ _ _).mono ?_
        rintro e w' ⟨rfl, rfl⟩
        go_wp2_with fail
        all_goals
          go_ret
          refine ⟨?_, HB.out.trans ((drewN_below _ _).mono HB.out.size)⟩
          rw [HE.out]
          refine congrArg (fun z => Ending.returned (Value.int .i64 z)) ?_
          simp [*]
          try omega
    · obtain ⟨m, rfl⟩ : ∃ m : Nat, n = m := ⟨n.toNat, by omega⟩
      have d0 : decide ((m : Int) < 0) = false := decide_eq_false (by omega)
      by_cases n8 : 8 ≤ m
      · have d8 : decide ((8 : Int) ≤ (m : Int)) = true := decide_eq_true (by omega)
        have HE := Aside0.mk (show eMsgInit c i = if decide (x ≤ 4294967295) then 0 else 74 from by rw [HE.out, d8]; simp)
        go_wp2_with fail
        all_goals
          refine (unless_calls _ _ _).mono ?_
          rintro e w' ⟨rfl, rfl⟩
          go_wp2_with fail
          all_goals
            go_ret
            refine ⟨?_, HB.out.trans ((drewN_below _ _).mono HB.out.size)⟩
            rw [HE.out]
            refine congrArg (fun z => Ending.returned (Value.int .i64 z)) ?_
            simp [*]
            try omega
      · have d8 : decide ((8 : Int) ≤ (m : Int)) = false := decide_eq_false (by omega)
        have hw : IntKind.i64.wrap (8 * (m : Int)) = 8 * (m : Int) := IntWalk.i64_in _ (by omega)
        have HE := Aside0.mk (show eMsgInit c i = if decide (x ≤ 4294967295) && x / 2 ^ (8 * m) == 0 then 0 else 74 from by rw [HE.out, d0, d8, Int.toNat_natCast]; simp)
        go_wp2_with fail
        all_goals
          refine (unless_calls _ _ _).mono ?_
          rintro e w' ⟨rfl, rfl⟩
          go_wp2_with fail
          all_goals
            go_ret
            refine ⟨?_, HB.out.trans ((drewN_below _ _).mono HB.out.size)⟩
            rw [HE.out]
            refine congrArg (fun z => Ending.returned (Value.int .i64 z)) ?_
            simp [*]
            try omega
end Go.Proofs.YthckjbmgeidkgaaDoor.XA
