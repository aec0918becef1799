/- ClassHolds: the walk. -/
import Derived.Test.YthckjbmgeidkgaaDoorHHoldsP
import Derived.Deep.DeepCutAuto
namespace Go.Proofs.YthckjbmgeidkgaaDoor.XA
set_option linter.unusedVariables false
set_option linter.unusedSimpArgs false
open Go.RowKit Go.WideMaps Go.Maps Go.Proofs.YthckjbmgeidkgaaDoorW.PrintWords Go.Proofs.YthckjbmgeidkgaaDoorW.PrintLast Go.Proofs.YthckjbmgeidkgaaDoorW.PrintMore
theorem box49h (w : World) (t : S49) (A4 : Option Addr) (c4 : Nat) (A5 : Option Addr) (c5 : Nat) (A6 : Option Addr) (c6 : Nat) (A7 : Option Addr) (c7 : Nat) : At49 (w.alloc (.cells #[.string t.f0, .int .i64 t.f1, .bool t.f2, .int .i64 t.f3, .slice A4 t.f4.length c4, .slice A5 t.f5.length c5, .slice A6 t.f6.length c6, .slice A7 t.f7.length c7] 49)) ⟨w.heap.size, 0, none⟩ t A4 c4 A5 c5 A6 c6 A7 c7 :=
  ⟨fun j v hj => cell_of (heap_alloc_new w (.cells #[.string t.f0, .int .i64 t.f1, .bool t.f2, .int .i64 t.f3, .slice A4 t.f4.length c4, .slice A5 t.f5.length c5, .slice A6 t.f6.length c6, .slice A7 t.f7.length c7] 49)) (by simpa using hj)⟩
section
variable {ops : Array Oper} {rest : List Oper} {o : Oper} {a : Act}
theorem store60h {Q : Exit → Act → World → Prop} {w : World} {z : Array Value} (hz : z.size = 9) (cs : Array Value) (hcs : cs.size = 9) (h1 : cs.all (·.oneCell') = true) (hgd : o.guard = none) (x y : Operand) (ho : o.op = .store 60 x y) (hx : a.eval x = .pointer (some ⟨w.heap.size, 0, none⟩)) (hy : a.eval y = .agg cs)
    (h : wpList Tryd.prog ops Q rest (a.put o.dst undef) (w.alloc (.cells cs 60))) : wpList Tryd.prog ops Q (o :: rest) a (w.alloc (.cells z 60)) :=
  wpList_plain hgd fun _ hK => by
    have hr := run_storeVar_new (P := Tryd.prog) w 60 z cs (by rw [hcs]; kernel_rfl) (by omega) h1
    unfold Oper.wp execOp
    simp only [ho, hx, hy, Instr.storeAt, Instr.sureAddr, Sem.run_bind, Sem.run_pure, Result.andThen_ok, hr]
    exact hK _ _ h
end
theorem getD_mem_ {α : Type} {l : List α} {i : Nat} {d : α} (h : i < l.length) : l.getD i d ∈ l := by
  rw [List.getD_eq_getElem?_getD, List.getElem?_eq_getElem h]
  exact List.getElem_mem h
theorem u64_of {x : Int} (h0 : 0 ≤ x) (h1 : x ≤ 4294967295) : IntKind.u64.wrap x = x := by
  unfold IntKind.wrap
  simp only [show IntKind.u64.signed = false from rfl, show IntKind.u64.bits = 64 from rfl]
  simp
  omega
structure HldSt (w0 wr : World) (V : CV) (c : S33) : Prop where
  bel : Below w0.heap.size w0 wr
  at_ : At wr w0.heap.size V c
  gl : GlobAt wr
theorem HldSt.below {w0 wr w1 : World} {V : CV} {c : S33} (h : HldSt w0 wr V c) (hB : Below wr.heap.size wr w1) : HldSt w0 w1 V c := ⟨h.bel.trans (hB.mono h.bel.size), h.at_.below hB, h.gl.below hB⟩
set_option maxRecDepth 1000000 in
set_option maxHeartbeats 20000000 in
theorem holds_calls (V : CV) (c : S33) (w : World) (h : Cf w V c) (hg : GlobAt w) (hm : MasksOk c) : Calls Tryd.prog 5 #[.agg (arr V c)] w fun e w' => e = .returned (.bool true) ∧ Below w.heap.size w w' := by
  have HS := Aside0.mk (show HldSt w (w.alloc (.cells (arr V c) 33)) V c from ⟨below_a w _, At.made h, hg.below (below_a w (.cells (arr V c) 33))⟩)
  have HM := Aside0.mk hm
  have hbt := h.bd.t
  have hbi := h.bd.i
  have hba := h.bd.a
  clear h hg hm
  go_enter Tryd.func5, Tryd.ntmps5
  unfold arr at *
  go_wp2_with (refine load33 HS.out.at_ rfl (.tmp 1) rfl rfl ?_)
  generalize w.alloc (.cells #[.string c.f0, .string c.f1.f0, .bool c.f1.f1, .bool c.f1.f2, .bool c.f1.f3, .bool c.f1.f4, .bool c.f1.f5, .bool c.f1.f6, .bool c.f1.f7, .bool c.f1.f8, .slice V.a10 c.f2.length V.k10, .slice V.a11 c.f3.length V.k11, .slice V.a12 c.f4.length V.k12, .slice V.a13 c.f5.length V.k13, .slice V.a14 c.f6.length V.k14, .slice V.a15 c.f7.length V.k15, .slice V.a16 c.f8.length V.k16, .slice V.a17 c.f9.length V.k17] 33) = w1 at *
  have hck := check_v V c w1 HS.out.at_.cf HS.out.gl
  unfold arr at hck
  refine hck.mono ?_
  clear hck
  rintro e w2 ⟨rfl, B2⟩
  have HS2 := Aside0.mk (HS.out.below B2)
  have HOK := Aside0.mk (fun (hv : verV c = okVer) => holds_of hv)
  clear B2 HS
  generalize verV c = v at *
  rcases he : eqV v okVer with _ | _
  · have hne : (!eqV v okVer) = true := by rw [he]; rfl
    clear HOK
    go_wp2_with (refine Kd.event_run rfl (v := .bool true) (hne ▸ run_neq36 _ v okVer (.tmp 18) (.tmp 19) rfl rfl rfl) ?_)
    refine (heads_calls w2 HS2.out.gl).mono ?_
    rintro e w3 ⟨rfl, B3⟩
    go_wp2_with fail
    go_ret
    exact ⟨rfl, HS2.out.bel.trans (B3.mono HS2.out.bel.size)⟩
  · have hne : (!eqV v okVer) = false := by rw [he]; rfl
    have HOK := Aside0.mk (HOK.out (eqV_iff.mp he))
    have ht0 := HOK.out.t0
    have ht1 := HOK.out.t1
    have hm0 := HOK.out.m0
    have hm1 := HOK.out.m1
    have q11 := HS2.out.at_.cell11
    have q10 := HS2.out.at_.cell10
    have d1 : decide ((c.f3.length : Int) < 1) = false := decide_eq_false (by omega)
    have d2 : decide ((256 : Int) < (c.f3.length : Int)) = false := decide_eq_false (by omega)
    have d3 : decide ((c.f2.length : Int) < 1) = false := decide_eq_false (by omega)
    have d4 : decide ((8 : Int) < (c.f2.length : Int)) = false := decide_eq_false (by omega)
    clear he
    go_wp2_with (refine Kd.event_run rfl (v := .bool false) (hne ▸ run_neq36 _ v okVer (.tmp 18) (.tmp 19) rfl rfl rfl) ?_)
    clear hne d1 d2 d3 d4 q11 q10 hm0 hm1
    go_loopw [3] (fun iv wr => ∃ i : Nat, i ≤ c.f3.length ∧ iv = .int .i64 i ∧ Aside0 (HldSt w wr V c)) (fun iv _ => c.f3.length - (intOf iv).toNat)
    case atStart => exact ⟨0, by omega, rfl, HS2⟩
    case round =>
      clear HS2
      obtain ⟨i, hi, rfl, HS⟩ := hrel
      have q11 := HS.out.at_.cell11
      by_cases hlt : i < c.f3.length
      · as_aux_lemma =>
          have hd : decide ((i : Int) < (c.f3.length : Int)) = true := decide_eq_true (by omega)
          have HLT := Aside0.mk (Nat.succ_le_of_lt hlt)
          obtain ⟨t, ad, A4, c4, A5, c5, A6, c6, A7, c7, ht, e11, HA, l4, g4, l5, g5, l6, g6, l7, g7⟩ := task_at HS.out.at_.cf.t i hlt
          have HT := Aside0.mk (HOK.out.task i hlt)
          rw [ht] at HT
          have HAX := Aside0.mk HA
          have HB1 := Aside0.mk (below_a wr (.cells #[.string t.f0, .int .i64 t.f1, .bool t.f2, .int .i64 t.f3, .slice A4 t.f4.length c4, .slice A5 t.f5.length c5, .slice A6 t.f6.length c6, .slice A7 t.f7.length c7] 49))
          have HX := Aside0.mk (box49h wr t A4 c4 A5 c5 A6 c6 A7 c7)
          have HSX := Aside0.mk (HS.out.below HB1.out)
          have HG5 := Aside0.mk (Kd.C_below g5 HB1.out)
          have HG6 := Aside0.mk (Kd.C_below g6 HB1.out)
          have HE11 := Aside0.mk e11
          rw [e11] at q11
          clear ht e11 HA g4 g5 g6 g7
          have y6 := HX.out.g6
          go_wp2_with ((with_reducible refine gate_dst (N := 55) rfl ?_); refine load49 HAX.out rfl (.tmp 54) rfl rfl ?_)
          generalize wr.alloc (.cells #[.string t.f0, .int .i64 t.f1, .bool t.f2, .int .i64 t.f3, .slice A4 t.f4.length c4, .slice A5 t.f5.length c5, .slice A6 t.f6.length c6, .slice A7 t.f7.length c7] 49) = wx at *
          generalize wr.heap.size = P at *
          clear HB1 HAX q11 HS
          obtain ⟨mf, hmf⟩ : ∃ mf, maskF c.f5 0 t.f6 = some mf := Option.isSome_iff_exists.mp HT.out.mks
          have HM0 := Aside0.mk (show maskF c.f5 0 (t.f6.drop 0) = some mf from hmf)
          have hlen := HG6.out.2.1
          clear hmf hlt hd
          go_loopw [5, 6, 7] (fun sv bv kv wr => ∃ (j : Nat) (bt : Int), j ≤ t.f6.length ∧ kv = .int .i64 j ∧ bv = .int .u32 bt ∧ sv = .int .u64 bt ∧ 0 ≤ bt ∧ bt ≤ 4294967295 ∧ wr = wx ∧ Aside0 (maskF c.f5 bt (t.f6.drop j) = some mf)) (fun _ _ k _ => t.f6.length - (intOf k).toNat)
          case atStart => exact ⟨0, 0, by omega, rfl, rfl, rfl, by omega, by omega, rfl, HM0⟩
          case round =>
            clear HM0
            obtain ⟨j, bt, hj, rfl, rfl, rfl, hb0, hb1, rfl, HMF⟩ := hrel
            by_cases hlt : j < t.f6.length
            · as_aux_lemma =>
                have hd : decide ((j : Int) < (t.f6.length : Int)) = true := decide_eq_true (by omega)
                have HLTJ := Aside0.mk (Nat.succ_le_of_lt hlt)
                obtain ⟨a6, rfl, hc0⟩ := (Kd.reads_of_C (d := (0 : Int)) HG6.out).2.2 (by omega)
                have hx := hc0 j hlt
                have hmem : t.f6.getD j 0 ∈ t.f6 := getD_mem_ hlt
                obtain ⟨h0, h1⟩ := HT.out.ev _ hmem
                obtain ⟨p, hp⟩ := Int.eq_ofNat_of_zero_le h0
                replace HMF := Aside0.mk ((maskF_drop c.f5 bt t.f6 j hlt).symm.trans HMF.out)
                rw [hp] at hx HMF h1
                rw [show ((p : Int)).toNat = p from Int.toNat_natCast p] at HMF
                have hpl : p < c.f5.length := by omega
                obtain ⟨u, ad2, hu, e2, HU⟩ := evt_at HSX.out.at_.cf.e p hpl
                have hmk := HM.out _ (getD_mem_ (d := z53) hpl)
                rw [hu] at hmk
                have q13 := HSX.out.at_.cell13
                rw [e2] at q13
                have k1 := HU.g1
                unfold maskOf at HMF
                rw [hu] at HMF
                have hz : bits .and .u32 bt u.f1 = 0 := by
                  by_cases hz : bits .and .u32 bt u.f1 = 0
                  · exact hz
                  · have := HMF.out
                    rw [if_pos hz] at this
                    cases this
                obtain ⟨hor, hle⟩ := or_add hb0 hb1 hmk.1 hmk.2 hz
                have HMN := Aside0.mk (show maskF c.f5 (bt + u.f1) (t.f6.drop (j + 1)) = some mf from by have := HMF.out; rw [if_neg (fun e => e hz), hor] at this; exact this)
                have e0 : decide ((p : Int) < 0) = false := decide_eq_false (by omega)
                have e1 : decide ((c.f5.length : Int) ≤ (p : Int)) = false := decide_eq_false (by omega)
                obtain ⟨hm0, hm1⟩ := hmk
                clear hc0 hmem h0 h1 hp hu e2 HU hz HMF
                generalize u.f1 = mk at *
                have hwc : IntKind.u64.wrap mk = mk := u64_of hm0 hm1
                have hws : IntKind.u64.wrap (bt + mk) = bt + mk := u64_of (by omega) hle
                go_wp2_with fail
                go_roundw
                case rel => exact ⟨j + 1, bt + mk, HLTJ.out, by go_num, by first | rfl | rw [hor], rfl, by omega, hle, trivial, HMN⟩
                case measure => have := HLTJ.out; simp [intOf]; omega
            · have hd : decide ((j : Int) < (t.f6.length : Int)) = false := decide_eq_false (by omega)
              have hwb : IntKind.u64.wrap bt = bt := u64_of hb0 hb1
              have hbb : (bt != bt) = false := by simp
              have y1 := HX.out.g1
              have y3 := HX.out.g3
              have y5 := HX.out.g5
              have a1 : decide (t.f3 < 1) = false := decide_eq_false (by have := HT.out.a0; omega)
              have a2 : decide (t.f1 < 0) = false := decide_eq_false (by have := HT.out.p0; omega)
              have a3 : decide ((63 : Int) < t.f1) = false := decide_eq_false (by have := HT.out.p1; omega)
              have hlen5 := HG5.out.2.1
              have HJ := Aside0.mk hj
              clear HMF hj
              have hon : t.f6.length = 0 ∨ (0 < t.f6.length ∧ t.f3 = 1) := by
                rcases HT.out.on with h | h
                · exact .inl h
                · rcases Nat.eq_zero_or_pos t.f6.length with z | z
                  · exact .inl z
                  · exact .inr ⟨z, h⟩
              rcases hon with e0 | ⟨z0, e0⟩
              case' inl =>
                have n0 : decide ((0 : Int) < (t.f6.length : Int)) = false := decide_eq_false (by omega)
                have n1 : ¬ 0 < t.f6.length := by omega
                clear e0
                go_upto_region 21 with fail
                clear n0 n1
              case' inr =>
                have n0 : (t.f3 != 1) = false := by rw [bne_eq_false_iff_eq]; exact e0
                have n1 : decide ((0 : Int) < (t.f6.length : Int)) = true := decide_eq_true (by omega)
                have HE0 := Aside0.mk e0
                clear e0
                go_upto_region 21 with fail
                clear n0 n1 z0 HE0
              all_goals
                clear hwb hbb a1 a2 a3 y1 y3 hd hlt
                obtain ⟨wx, rfl⟩ : ∃ wx : World, wx = wr := ⟨_, rfl⟩
                go_wp2_with fail
                go_loopw [9] (fun kv wr => ∃ j : Nat, j ≤ t.f5.length ∧ kv = .int .i64 j ∧ Aside0 (Below wx.heap.size wx wr)) (fun k _ => t.f5.length - (intOf k).toNat)
                case atStart => exact ⟨0, by omega, rfl, ⟨Below.refl _ _⟩⟩
                case round =>
                  obtain ⟨j, hj, rfl, HW⟩ := hrel
                  replace y5 := (HX.out.below HW.out).g5
                  by_cases hlt : j < t.f5.length
                  · as_aux_lemma =>
                      have hd : decide ((j : Int) < (t.f5.length : Int)) = true := decide_eq_true (by omega)
                      have HLTJ := Aside0.mk (Nat.succ_le_of_lt hlt)
                      obtain ⟨a5, e5, hc0⟩ := (Kd.reads_of_C (d := (0 : Int)) (Kd.C_below HG5.out HW.out)).2.2 (by omega)
                      have hx := hc0 j hlt
                      obtain ⟨h0, h1⟩ := HT.out.rs _ (getD_mem_ (d := (0 : Int)) hlt)
                      have e0 : decide (t.f5.getD j 0 < 0) = false := decide_eq_false (by omega)
                      have e1 : decide ((c.f4.length : Int) ≤ t.f5.getD j 0) = false := decide_eq_false (by omega)
                      have q12 := (HSX.out.below HW.out).at_.cell12
                      rw [e5] at y5
                      clear hc0 h0 h1 e5
                      generalize t.f5.getD j 0 = r at *
                      go_wp2_with fail
                      go_quiet (fail)
                      go_wp2_with fail
                      go_roundw
                      case rel => exact ⟨j + 1, HLTJ.out, by go_num, ⟨HW.out.trans ((drewN_below _ _).mono HW.out.size)⟩⟩
                      case measure => have := HLTJ.out; simp [intOf]; omega
                  · have hd : decide ((j : Int) < (t.f5.length : Int)) = false := decide_eq_false (by omega)
                    replace HSX := Aside0.mk (HSX.out.below HW.out)
                    replace HX := Aside0.mk (HX.out.below HW.out)
                    go_wp2_with fail
                    clear HW hj hd hlt y5 HG5 HG6
                    generalize wr = wy at *
                    go_loopw [10] (fun kv wr => ∃ j : Nat, j ≤ i ∧ kv = .int .i64 j ∧ Aside0 (Below wy.heap.size wy wr)) (fun k _ => i - (intOf k).toNat)
                    case atStart => exact ⟨0, by omega, rfl, ⟨Below.refl _ _⟩⟩
                    case round =>
                      obtain ⟨k, hk, rfl, HW⟩ := hrel
                      by_cases hlt : k < i
                      · as_aux_lemma =>
                          have hd : decide ((k : Int) < (i : Int)) = true := decide_eq_true (by omega)
                          have HLTK := Aside0.mk (Nat.succ_le_of_lt hlt)
                          have hkl : k < c.f3.length := by have := HLT.out; omega
                          obtain ⟨u, ad2, E4, f4, E5, f5, E6, f6, E7, f7, hu, e2, HU, _⟩ := task_at (HSX.out.below HW.out).at_.cf.t k hkl
                          have q11 := (HSX.out.below HW.out).at_.cell11
                          rw [e2] at q11
                          have k0 := HU.g0
                          have y0 : wr.cell? ⟨P, 0, none⟩ = some (.string t.f0) := (HX.out.below HW.out).g0
                          have hne : (u.f0.toList == t.f0.toList) = false := by have := HT.out.nm k hlt; rw [hu] at this; exact this
                          clear hu e2 HU
                          generalize u.f0 = us at *
                          generalize t.f0 = ts at *
                          go_wp2_with fail
                          go_quiet (fail)
                          go_wp2_with fail
                          go_roundw
                          case rel => exact ⟨k + 1, HLTK.out, by go_num, ⟨HW.out.trans ((drewN_below _ _).mono HW.out.size)⟩⟩
                          case measure => have := HLTK.out; simp [intOf]; omega
                      · have hd : decide ((k : Int) < (i : Int)) = false := decide_eq_false (by omega)
                        go_wp2_with fail
                        go_roundw
                        case rel => exact ⟨i + 1, HLT.out, by go_num, ⟨HSX.out.below HW.out⟩⟩
                        case measure => have := HLT.out; simp [intOf]; omega
      · have hd : decide ((i : Int) < (c.f3.length : Int)) = false := decide_eq_false (by omega)
        go_wp2_with fail
        clear hd hlt hi q11 ht0 ht1
        go_loopw [11] (fun iv wr => ∃ i : Nat, i ≤ c.f8.length ∧ iv = .int .i64 i ∧ Aside0 (HldSt w wr V c)) (fun iv _ => c.f8.length - (intOf iv).toNat)
        case atStart => exact ⟨0, by omega, rfl, HS⟩
        case round =>
          clear HS
          obtain ⟨i, hi, rfl, HS⟩ := hrel
          have q16 := HS.out.at_.cell16
          by_cases hlt : i < c.f8.length
          · as_aux_lemma =>
              have hd : decide ((i : Int) < (c.f8.length : Int)) = true := decide_eq_true (by omega)
              have HLT := Aside0.mk (Nat.succ_le_of_lt hlt)
              obtain ⟨wo, rfl⟩ : ∃ wo : World, wo = wr := ⟨_, rfl⟩
              go_wp2_with fail
              go_loopw [12] (fun kv wr => ∃ k : Nat, k ≤ c.f8.length ∧ kv = .int .i64 k ∧ Aside0 (Below wo.heap.size wo wr)) (fun kv _ => c.f8.length - (intOf kv).toNat)
              case atStart => exact ⟨0, by omega, rfl, ⟨Below.refl _ _⟩⟩
              case round =>
                obtain ⟨k, hk, rfl, HW⟩ := hrel
                replace q16 := (HS.out.below HW.out).at_.cell16
                by_cases hltk : k < c.f8.length
                · as_aux_lemma =>
                    have hdk : decide ((k : Int) < (c.f8.length : Int)) = true := decide_eq_true (by omega)
                    have HLTK := Aside0.mk (Nat.succ_le_of_lt hltk)
                    obtain ⟨t, ad, A3, c3, A4, c4, ht, e, HAt, _⟩ := isr_at (HS.out.below HW.out).at_.cf.i i hlt
                    obtain ⟨u, ad2, D3, d3, D4, d4, hu, e2, HAu, _⟩ := isr_at (HS.out.below HW.out).at_.cf.i k hltk
                    obtain rfl : ad2 = ad := by
                      have := e.symm.trans e2
                      injection this with this
                      exact this.symm
                    have HU1 := Aside0.mk HAt
                    have HU2 := Aside0.mk HAu
                    have HNN := HOK.out.isr i k hlt hltk
                    rw [ht, hu] at HNN
                    have HNE := Aside0.mk HNN.1
                    have HNO := Aside0.mk HNN.2
                    rw [e] at q16
                    clear ht hu e e2 HAt HAu HNN
                    go_wp2_with fail
                    refine start_ (n := 14) (S := fun w_ => Below wr.heap.size wr w_) (ds := []) #[false, false, false, false, false, false, false, false, false, false, false, false, false, false] (by kernel_rfl) rfl rfl (drew_below wr) (fun hHeld => ?_)
                    have HH := Aside0.mk hHeld
                    clear hHeld
                    generalize wr.drew = wv at HH ⊢
                    refine pure_ (i := 0) (N := some 176) (v := ?_) (a' := ?_) #[true, false, false, false, false, false, false, false, false, false, false, false, false, false] rfl rfl (by kernel_rfl) (fun _ _ _ h => h) (Or.inl ⟨by rfl, ?_⟩) ?_ ?_
                    rotate_left
                    · intro w_
                      go_simp
                      with_reducible rfl
                    rotate_left
                    · simp only [Act.put, List.setIfInBounds_toArray, List.set_cons_zero, List.set_cons_succ, i64_w, i32_w]
                      rfl
                    refine take_ (i := 1) (N := some 177) (v := ?_) (a' := ?_) #[true, true, false, false, false, false, false, false, false, false, false, false, false, false] rfl rfl (by kernel_rfl) (fun _ _ _ h => h) (Or.inl ⟨by rfl, ?_⟩) HH.out ?_ ?_
                    rotate_left
                    · rintro w_ s
                      have q16 := (s.cell (World.block_lt_of_cell? wr _ q16)).trans q16
                      go_simp
                      with_reducible rfl
                    rotate_left
                    · simp only [Act.put, List.setIfInBounds_toArray, List.set_cons_zero, List.set_cons_succ, i64_w, i32_w]
                      rfl
                    refine pure_ (i := 2) (N := some 178) (v := ?_) (a' := ?_) #[true, true, true, false, false, false, false, false, false, false, false, false, false, false] rfl rfl (by kernel_rfl) (fun _ _ _ h => h) (Or.inl ⟨by rfl, ?_⟩) ?_ ?_
                    rotate_left
                    · intro w_
                      go_simp
                      with_reducible rfl
                    rotate_left
                    · simp only [Act.put, List.setIfInBounds_toArray, List.set_cons_zero, List.set_cons_succ, i64_w, i32_w]
                      rfl
                    refine pure_ (i := 3) (N := some 179) (v := ?_) (a' := ?_) #[true, true, true, true, false, false, false, false, false, false, false, false, false, false] rfl rfl (by kernel_rfl) (fun _ _ _ h => h) (Or.inl ⟨by rfl, ?_⟩) ?_ ?_
                    rotate_left
                    · intro w_
                      go_simp
                      with_reducible rfl
                    rotate_left
                    · simp only [Act.put, List.setIfInBounds_toArray, List.set_cons_zero, List.set_cons_succ, i64_w, i32_w]
                      rfl
                    refine take_ (i := 4) (N := some 180) (v := ?_) (a' := ?_) #[true, true, true, true, true, false, false, false, false, false, false, false, false, false] rfl rfl (by kernel_rfl) (fun _ _ _ h => h) (Or.inl ⟨by rfl, ?_⟩) HH.out ?_ ?_
                    rotate_left
                    · rintro w_ s
                      refine run55 (HU1.out.below s) (.tmp 179) ?_ ?_ <;> rfl
                    rotate_left
                    · simp only [Act.put, List.setIfInBounds_toArray, List.set_cons_zero, List.set_cons_succ, i64_w, i32_w]
                      rfl
                    refine pure_ (i := 5) (N := some 181) (v := ?_) (a' := ?_) #[true, true, true, true, true, true, false, false, false, false, false, false, false, false] rfl rfl (by kernel_rfl) (fun _ _ _ h => h) (Or.inl ⟨by rfl, ?_⟩) ?_ ?_
                    rotate_left
                    · intro w_
                      go_simp
                      with_reducible rfl
                    rotate_left
                    · simp only [Act.put, List.setIfInBounds_toArray, List.set_cons_zero, List.set_cons_succ, i64_w, i32_w]
                      rfl
                    refine take_ (i := 6) (N := some 182) (v := ?_) (a' := ?_) #[true, true, true, true, true, true, true, false, false, false, false, false, false, false] rfl rfl (by kernel_rfl) (fun _ _ _ h => h) (Or.inl ⟨by rfl, ?_⟩) HH.out ?_ ?_
                    rotate_left
                    · rintro w_ s
                      have q16 := (s.cell (World.block_lt_of_cell? wr _ q16)).trans q16
                      go_simp
                      with_reducible rfl
                    rotate_left
                    · simp only [Act.put, List.setIfInBounds_toArray, List.set_cons_zero, List.set_cons_succ, i64_w, i32_w]
                      rfl
                    refine pure_ (i := 7) (N := some 183) (v := ?_) (a' := ?_) #[true, true, true, true, true, true, true, true, false, false, false, false, false, false] rfl rfl (by kernel_rfl) (fun _ _ _ h => h) (Or.inl ⟨by rfl, ?_⟩) ?_ ?_
                    rotate_left
                    · intro w_
                      go_simp
                      with_reducible rfl
                    rotate_left
                    · simp only [Act.put, List.setIfInBounds_toArray, List.set_cons_zero, List.set_cons_succ, i64_w, i32_w]
                      rfl
                    refine pure_ (i := 8) (N := some 184) (v := ?_) (a' := ?_) #[true, true, true, true, true, true, true, true, true, false, false, false, false, false] rfl rfl (by kernel_rfl) (fun _ _ _ h => h) (Or.inl ⟨by rfl, ?_⟩) ?_ ?_
                    rotate_left
                    · intro w_
                      go_simp
                      with_reducible rfl
                    rotate_left
                    · simp only [Act.put, List.setIfInBounds_toArray, List.set_cons_zero, List.set_cons_succ, i64_w, i32_w]
                      rfl
                    refine take_ (i := 9) (N := some 185) (v := ?_) (a' := ?_) #[true, true, true, true, true, true, true, true, true, true, false, false, false, false] rfl rfl (by kernel_rfl) (fun _ _ _ h => h) (Or.inl ⟨by rfl, ?_⟩) HH.out ?_ ?_
                    rotate_left
                    · rintro w_ s
                      refine run55 (HU2.out.below s) (.tmp 184) ?_ ?_ <;> rfl
                    rotate_left
                    · simp only [Act.put, List.setIfInBounds_toArray, List.set_cons_zero, List.set_cons_succ, i64_w, i32_w]
                      rfl
                    refine two_ (i := 10) (j := 11) (Ni := some 13) (Nj := some 14) #[true, true, true, true, true, true, true, true, true, true, true, false, false, false] #[true, true, true, true, true, true, true, true, true, true, false, true, false, false] rfl rfl rfl rfl (by kernel_rfl) (by decide) (by decide) (fun K hK => ?_) (fun K hK => ?_)
                    focus
                      go_simp
                      refine hK.out _ _ (HH.out.alloc HH.out.size _) (fun _ => ?_)
                      clear hK K
                      refine one_ (i := 11) (N := some 14) #[true, true, true, true, true, true, true, true, true, true, true, true, false, false] rfl rfl (by kernel_rfl) (by decide) (fun K hK => ?_)
                      go_simp
                      refine hK.out _ _ ((HH.out.alloc HH.out.size _).alloc (HH.out.alloc HH.out.size _).size _) (fun _ => ?_)
                      clear hK K
                      refine one_ (i := 12) (N := none) #[true, true, true, true, true, true, true, true, true, true, true, true, true, false] rfl rfl (by kernel_rfl) (by decide) (fun K hK => ?_)
                      go_simp
                      refine hK.out _ _ ((HH.out.alloc HH.out.size _).alloc (HH.out.alloc HH.out.size _).size _) (fun _ => ?_)
                      clear hK K
                      refine one_ (i := 13) (N := none) #[true, true, true, true, true, true, true, true, true, true, true, true, true, true] rfl rfl (by kernel_rfl) (by decide) (fun K hK => ?_)
                      go_simp
                      refine hK.out _ _ ((HH.out.alloc HH.out.size _).alloc (HH.out.alloc HH.out.size _).size _) (fun _ => ?_)
                      clear hK K
                      refine done_ (by kernel_rfl) ?_
                      try clear q16
                      have hw2 := (Below.refl wv.heap.size wv).alloc (Nat.le_refl _) (.cells #[.string t.f0, .int .i64 t.f1, .int .i64 t.f2, .slice A3 t.f3.length c3, .slice A4 t.f4.length c4] 55) |>.alloc (by simp) (.cells #[.string u.f0, .int .i64 u.f1, .int .i64 u.f2, .slice D3 u.f3.length d3, .slice D4 u.f4.length d4] 55)
                      have HHt := Aside0.mk (HH.out.trans (hw2.mono HH.out.size))
                      have n0 : ((wv.alloc (.cells #[.string t.f0, .int .i64 t.f1, .int .i64 t.f2, .slice A3 t.f3.length c3, .slice A4 t.f4.length c4] 55)).alloc (.cells #[.string u.f0, .int .i64 u.f1, .int .i64 u.f2, .slice D3 u.f3.length d3, .slice D4 u.f4.length d4] 55)).heap[wv.heap.size]? = some (.cells #[.string t.f0, .int .i64 t.f1, .int .i64 t.f2, .slice A3 t.f3.length c3, .slice A4 t.f4.length c4] 55 (0, 0)) := by rw [heap_alloc_old _ _ (by simp)]; exact heap_alloc_new wv _
                      have n1 : ((wv.alloc (.cells #[.string t.f0, .int .i64 t.f1, .int .i64 t.f2, .slice A3 t.f3.length c3, .slice A4 t.f4.length c4] 55)).alloc (.cells #[.string u.f0, .int .i64 u.f1, .int .i64 u.f2, .slice D3 u.f3.length d3, .slice D4 u.f4.length d4] 55)).heap[wv.heap.size + 1]? = some (.cells #[.string u.f0, .int .i64 u.f1, .int .i64 u.f2, .slice D3 u.f3.length d3, .slice D4 u.f4.length d4] 55 (0, 0)) := by have h1 := heap_alloc_new (wv.alloc (.cells #[.string t.f0, .int .i64 t.f1, .int .i64 t.f2, .slice A3 t.f3.length c3, .slice A4 t.f4.length c4] 55)) (.cells #[.string u.f0, .int .i64 u.f1, .int .i64 u.f2, .slice D3 u.f3.length d3, .slice D4 u.f4.length d4] 55); rw [World.size_alloc] at h1; exact h1
                      have HT1 := Aside0.mk (show At55 _ ⟨wv.heap.size, 0, none⟩ t A3 c3 A4 c4 from ⟨fun j v hj => cell_of n0 (by simpa using hj)⟩)
                      have HT2 := Aside0.mk (show At55 _ ⟨(wv.heap.size + 1), 0, none⟩ u D3 d3 D4 d4 from ⟨fun j v hj => cell_of n1 (by simpa using hj)⟩)
                      clear n0 n1 hw2 HH
                      generalize (wv.alloc (.cells #[.string t.f0, .int .i64 t.f1, .int .i64 t.f2, .slice A3 t.f3.length c3, .slice A4 t.f4.length c4] 55)).alloc (.cells #[.string u.f0, .int .i64 u.f1, .int .i64 u.f2, .slice D3 u.f3.length d3, .slice D4 u.f4.length d4] 55) = ww at *
                      generalize (wv.heap.size + 1) = Q at *
                      generalize wv.heap.size = P at *
                    rotate_left
                    focus
                      go_simp
                      refine hK.out _ _ (HH.out.alloc HH.out.size _) (fun _ => ?_)
                      clear hK K
                      refine one_ (i := 10) (N := some 13) #[true, true, true, true, true, true, true, true, true, true, true, true, false, false] rfl rfl (by kernel_rfl) (by decide) (fun K hK => ?_)
                      go_simp
                      refine hK.out _ _ ((HH.out.alloc HH.out.size _).alloc (HH.out.alloc HH.out.size _).size _) (fun _ => ?_)
                      clear hK K
                      refine one_ (i := 12) (N := none) #[true, true, true, true, true, true, true, true, true, true, true, true, true, false] rfl rfl (by kernel_rfl) (by decide) (fun K hK => ?_)
                      go_simp
                      refine hK.out _ _ ((HH.out.alloc HH.out.size _).alloc (HH.out.alloc HH.out.size _).size _) (fun _ => ?_)
                      clear hK K
                      refine one_ (i := 13) (N := none) #[true, true, true, true, true, true, true, true, true, true, true, true, true, true] rfl rfl (by kernel_rfl) (by decide) (fun K hK => ?_)
                      go_simp
                      refine hK.out _ _ ((HH.out.alloc HH.out.size _).alloc (HH.out.alloc HH.out.size _).size _) (fun _ => ?_)
                      clear hK K
                      refine done_ (by kernel_rfl) ?_
                      try clear q16
                      have hw2 := (Below.refl wv.heap.size wv).alloc (Nat.le_refl _) (.cells #[.string u.f0, .int .i64 u.f1, .int .i64 u.f2, .slice D3 u.f3.length d3, .slice D4 u.f4.length d4] 55) |>.alloc (by simp) (.cells #[.string t.f0, .int .i64 t.f1, .int .i64 t.f2, .slice A3 t.f3.length c3, .slice A4 t.f4.length c4] 55)
                      have HHt := Aside0.mk (HH.out.trans (hw2.mono HH.out.size))
                      have n0 : ((wv.alloc (.cells #[.string u.f0, .int .i64 u.f1, .int .i64 u.f2, .slice D3 u.f3.length d3, .slice D4 u.f4.length d4] 55)).alloc (.cells #[.string t.f0, .int .i64 t.f1, .int .i64 t.f2, .slice A3 t.f3.length c3, .slice A4 t.f4.length c4] 55)).heap[wv.heap.size]? = some (.cells #[.string u.f0, .int .i64 u.f1, .int .i64 u.f2, .slice D3 u.f3.length d3, .slice D4 u.f4.length d4] 55 (0, 0)) := by rw [heap_alloc_old _ _ (by simp)]; exact heap_alloc_new wv _
                      have n1 : ((wv.alloc (.cells #[.string u.f0, .int .i64 u.f1, .int .i64 u.f2, .slice D3 u.f3.length d3, .slice D4 u.f4.length d4] 55)).alloc (.cells #[.string t.f0, .int .i64 t.f1, .int .i64 t.f2, .slice A3 t.f3.length c3, .slice A4 t.f4.length c4] 55)).heap[wv.heap.size + 1]? = some (.cells #[.string t.f0, .int .i64 t.f1, .int .i64 t.f2, .slice A3 t.f3.length c3, .slice A4 t.f4.length c4] 55 (0, 0)) := by have h1 := heap_alloc_new (wv.alloc (.cells #[.string u.f0, .int .i64 u.f1, .int .i64 u.f2, .slice D3 u.f3.length d3, .slice D4 u.f4.length d4] 55)) (.cells #[.string t.f0, .int .i64 t.f1, .int .i64 t.f2, .slice A3 t.f3.length c3, .slice A4 t.f4.length c4] 55); rw [World.size_alloc] at h1; exact h1
                      have HT1 := Aside0.mk (show At55 _ ⟨(wv.heap.size + 1), 0, none⟩ t A3 c3 A4 c4 from ⟨fun j v hj => cell_of n1 (by simpa using hj)⟩)
                      have HT2 := Aside0.mk (show At55 _ ⟨wv.heap.size, 0, none⟩ u D3 d3 D4 d4 from ⟨fun j v hj => cell_of n0 (by simpa using hj)⟩)
                      clear n0 n1 hw2 HH
                      generalize (wv.alloc (.cells #[.string u.f0, .int .i64 u.f1, .int .i64 u.f2, .slice D3 u.f3.length d3, .slice D4 u.f4.length d4] 55)).alloc (.cells #[.string t.f0, .int .i64 t.f1, .int .i64 t.f2, .slice A3 t.f3.length c3, .slice A4 t.f4.length c4] 55) = ww at *
                      generalize (wv.heap.size + 1) = P at *
                      generalize wv.heap.size = Q at *
                    rotate_left
                    all_goals
                      have t1 := HT1.out.g1
                      have t2 := HT1.out.g2
                      have u1 := HT2.out.g1
                      have u2 := HT2.out.g2
                      by_cases h1 : i = k
                      · have P1 := Aside0.mk h1
                        have b1 : ((i : Int) != (k : Int)) = false := by rw [bne_eq_false_iff_eq]; omega
                        clear h1
                        by_cases h2 : t.f1 = 1
                        · have P2 := Aside0.mk h2
                          have b2 : (t.f1 == 1) = true := by rw [beq_iff_eq]; exact h2
                          have b2x : (t.f1 != 1) = false := by rw [bne_eq_false_iff_eq]; exact h2
                          clear h2
                          by_cases h3 : u.f1 = 2
                          · have P3 := Aside0.mk h3
                            have b3 : (u.f1 == 2) = true := by rw [beq_iff_eq]; exact h3
                            have b3x : (u.f1 != 2) = false := by rw [bne_eq_false_iff_eq]; exact h3
                            clear h3
                            by_cases h4 : t.f2 < u.f2
                            · have P4 := Aside0.mk h4
                              have b4 : decide (t.f2 < u.f2) = true := decide_eq_true h4
                              clear h4
                              exact (HNO.out (by have h1 := P1.out; have h2 := P2.out; have h3 := P3.out; have h4 := P4.out; exact ⟨by assumption, by assumption, by assumption⟩)).elim
                            · have P4 := Aside0.mk h4
                              have b4 : decide (t.f2 < u.f2) = false := decide_eq_false h4
                              clear h4
                              go_wp2_with fail
                              go_roundw
                              case rel => exact ⟨k + 1, HLTK.out, by go_num, ⟨HW.out.trans (HHt.out.mono HW.out.size)⟩⟩
                              case measure => have := HLTK.out; simp [intOf]; omega
                          · have P3 := Aside0.mk h3
                            have b3 : (u.f1 == 2) = false := by rw [beq_eq_false_iff_ne]; exact h3
                            have b3x : (u.f1 != 2) = true := by rw [bne_iff_ne]; exact h3
                            clear h3
                            go_wp2_with fail
                            go_roundw
                            case rel => exact ⟨k + 1, HLTK.out, by go_num, ⟨HW.out.trans (HHt.out.mono HW.out.size)⟩⟩
                            case measure => have := HLTK.out; simp [intOf]; omega
                        · have P2 := Aside0.mk h2
                          have b2 : (t.f1 == 1) = false := by rw [beq_eq_false_iff_ne]; exact h2
                          have b2x : (t.f1 != 1) = true := by rw [bne_iff_ne]; exact h2
                          clear h2
                          go_wp2_with fail
                          go_roundw
                          case rel => exact ⟨k + 1, HLTK.out, by go_num, ⟨HW.out.trans (HHt.out.mono HW.out.size)⟩⟩
                          case measure => have := HLTK.out; simp [intOf]; omega
                      · have P1 := Aside0.mk h1
                        have b1 : ((i : Int) != (k : Int)) = true := by rw [bne_iff_ne]; omega
                        have b1x : (t.f2 == u.f2) = false := by rw [beq_eq_false_iff_ne]; exact HNE.out h1
                        clear h1
                        by_cases h5 : t.f1 = 1
                        · have P5 := Aside0.mk h5
                          have b5 : (t.f1 == 1) = true := by rw [beq_iff_eq]; exact h5
                          have b5x : (t.f1 != 1) = false := by rw [bne_eq_false_iff_eq]; exact h5
                          clear h5
                          by_cases h6 : u.f1 = 2
                          · have P6 := Aside0.mk h6
                            have b6 : (u.f1 == 2) = true := by rw [beq_iff_eq]; exact h6
                            have b6x : (u.f1 != 2) = false := by rw [bne_eq_false_iff_eq]; exact h6
                            clear h6
                            by_cases h7 : t.f2 < u.f2
                            · have P7 := Aside0.mk h7
                              have b7 : decide (t.f2 < u.f2) = true := decide_eq_true h7
                              clear h7
                              exact (HNO.out (by have h1 := P1.out; have h5 := P5.out; have h6 := P6.out; have h7 := P7.out; exact ⟨by assumption, by assumption, by assumption⟩)).elim
                            · have P7 := Aside0.mk h7
                              have b7 : decide (t.f2 < u.f2) = false := decide_eq_false h7
                              clear h7
                              go_wp2_with fail
                              go_roundw
                              case rel => exact ⟨k + 1, HLTK.out, by go_num, ⟨HW.out.trans (HHt.out.mono HW.out.size)⟩⟩
                              case measure => have := HLTK.out; simp [intOf]; omega
                          · have P6 := Aside0.mk h6
                            have b6 : (u.f1 == 2) = false := by rw [beq_eq_false_iff_ne]; exact h6
                            have b6x : (u.f1 != 2) = true := by rw [bne_iff_ne]; exact h6
                            clear h6
                            go_wp2_with fail
                            go_roundw
                            case rel => exact ⟨k + 1, HLTK.out, by go_num, ⟨HW.out.trans (HHt.out.mono HW.out.size)⟩⟩
                            case measure => have := HLTK.out; simp [intOf]; omega
                        · have P5 := Aside0.mk h5
                          have b5 : (t.f1 == 1) = false := by rw [beq_eq_false_iff_ne]; exact h5
                          have b5x : (t.f1 != 1) = true := by rw [bne_iff_ne]; exact h5
                          clear h5
                          go_wp2_with fail
                          go_roundw
                          case rel => exact ⟨k + 1, HLTK.out, by go_num, ⟨HW.out.trans (HHt.out.mono HW.out.size)⟩⟩
                          case measure => have := HLTK.out; simp [intOf]; omega
                · have hdk : decide ((k : Int) < (c.f8.length : Int)) = false := decide_eq_false (by omega)
                  go_wp2_with fail
                  go_roundw
                  case rel => exact ⟨i + 1, HLT.out, by go_num, ⟨HS.out.below HW.out⟩⟩
                  case measure => have := HLT.out; simp [intOf]; omega
          · have hd : decide ((i : Int) < (c.f8.length : Int)) = false := decide_eq_false (by omega)
            go_wp2_with fail
            clear hd hlt hi q16
            go_loopw [15] (fun iv wr => ∃ i : Nat, i ≤ c.f7.length ∧ iv = .int .i64 i ∧ Aside0 (HldSt w wr V c)) (fun iv _ => c.f7.length - (intOf iv).toNat)
            case atStart => exact ⟨0, by omega, rfl, HS⟩
            case round =>
              clear HS
              obtain ⟨i, hi, rfl, HS⟩ := hrel
              have q15 := HS.out.at_.cell15
              by_cases hlt : i < c.f7.length
              · as_aux_lemma =>
                  have hd : decide ((i : Int) < (c.f7.length : Int)) = true := decide_eq_true (by omega)
                  have HLT := Aside0.mk (Nat.succ_le_of_lt hlt)
                  obtain ⟨t, ad, A6, c6, ht, e, HA, _⟩ := alm_at HS.out.at_.cf.a i hlt
                  have HT := HOK.out.alm i hlt
                  rw [ht] at HT
                  obtain ⟨h0, h1, h2⟩ := HT
                  rw [e] at q15
                  have HAX := Aside0.mk HA
                  have HX := Aside0.mk (show At60 (wr.alloc (.cells #[.string t.f0, .int .i64 t.f1, .int .i64 t.f2.f0, .int .i64 t.f2.f1, .int .i64 t.f2.f2, .string t.f2.f3, .slice A6 t.f3.length c6, .int .u32 t.f4, .int .u32 t.f5] 60)) ⟨wr.heap.size, 0, none⟩ t A6 c6 from ⟨fun j v hj => cell_of (heap_alloc_new wr (.cells #[.string t.f0, .int .i64 t.f1, .int .i64 t.f2.f0, .int .i64 t.f2.f1, .int .i64 t.f2.f2, .string t.f2.f3, .slice A6 t.f3.length c6, .int .u32 t.f4, .int .u32 t.f5] 60)) (by simpa using hj)⟩)
                  have HB1 := below_a wr (.cells #[.string t.f0, .int .i64 t.f1, .int .i64 t.f2.f0, .int .i64 t.f2.f1, .int .i64 t.f2.f2, .string t.f2.f3, .slice A6 t.f3.length c6, .int .u32 t.f4, .int .u32 t.f5] 60)
                  replace HS := Aside0.mk (HS.out.below HB1)
                  obtain ⟨p, hp⟩ := Int.eq_ofNat_of_zero_le h0
                  have hpl : p < c.f6.length := by omega
                  obtain ⟨x, ad2, hx, e2, HA2⟩ := ctr_at HS.out.at_.cf.x p hpl
                  rw [hp, Int.toNat_natCast, hx] at h2
                  have k1 := HA2.g1
                  have HH2 := Aside0.mk h2
                  have HK1 := Aside0.mk k1
                  have HE2 := Aside0.mk e2
                  have HP := Aside0.mk hp
                  have HP0 := Aside0.mk hpl
                  clear ht e HA HB1 hx HA2 hp k1 e2 h2 h0 h1
                  go_wp2_with ((with_reducible refine gate_dst (N := 224) rfl ?_); refine load60 HAX.out rfl (.tmp 223) rfl rfl ?_)
                  clear q15 HAX
                  generalize wr.alloc (.cells #[.string t.f0, .int .i64 t.f1, .int .i64 t.f2.f0, .int .i64 t.f2.f1, .int .i64 t.f2.f2, .string t.f2.f3, .slice A6 t.f3.length c6, .int .u32 t.f4, .int .u32 t.f5] 60) = wx at *
                  generalize wr.heap.size = P at *
                  have k1 := HK1.out
                  have q14 := HS.out.at_.cell14
                  rw [HE2.out] at q14
                  have y1 := HX.out.g1
                  rw [HP.out] at y1
                  have y4 := HX.out.g7
                  have y6 := HX.out.g6
                  have e0 : decide ((p : Int) < 0) = false := decide_eq_false (by omega)
                  have e1 : decide ((c.f6.length : Int) ≤ (p : Int)) = false := decide_eq_false (by omega)
                  have e1n : decide (c.f6.length ≤ p) = false := decide_eq_false (by omega)
                  have e1m : ¬ c.f6.length ≤ p := by omega
                  have h2 := HH2.out
                  clear HH2
                  generalize t.f3.length = n at *
                  generalize t.f4 = f4 at *
                  generalize x.f1 = mx at *
                  by_cases hn : n = 0
                  · have n0 : decide ((0 : Int) < (n : Int)) = false := decide_eq_false (by omega)
                    have n1 : ¬ 0 < n := by omega
                    clear hn h2
                    refine start_ (n := 34) (S := fun w_ => Below wx.heap.size wx w_) (ds := []) #[false, false, false, false, false, false, false, false, false, false, false, false, false, false, false, false, false, false, false, false, false, false, false, false, false, false, false, false, false, false, false, false, false, false] (by kernel_rfl) rfl rfl (drew_below wx) (fun hHeld => ?_)
                    have HH := Aside0.mk hHeld
                    clear hHeld
                    generalize wx.drew = wv at HH ⊢
                    refine pure_ (i := 0) (N := some 225) (v := ?_) (a' := ?_) #[true, false, false, false, false, false, false, false, false, false, false, false, false, false, false, false, false, false, false, false, false, false, false, false, false, false, false, false, false, false, false, false, false, false] rfl rfl (by kernel_rfl) (fun _ _ _ h => h) (Or.inl ⟨by rfl, ?_⟩) ?_ ?_
                    rotate_left
                    · intro w_
                      go_simp
                      with_reducible rfl
                    rotate_left
                    · simp only [Act.put, List.setIfInBounds_toArray, List.set_cons_zero, List.set_cons_succ, i64_w, i32_w]
                      rfl
                    refine take_ (i := 1) (N := some 226) (v := ?_) (a' := ?_) #[true, true, false, false, false, false, false, false, false, false, false, false, false, false, false, false, false, false, false, false, false, false, false, false, false, false, false, false, false, false, false, false, false, false] rfl rfl (by kernel_rfl) (fun _ _ _ h => h) (Or.inl ⟨by rfl, ?_⟩) HH.out ?_ ?_
                    rotate_left
                    · rintro w_ s
                      have q14 := (s.cell (World.block_lt_of_cell? wx _ q14)).trans q14; have y1 := (s.cell (World.block_lt_of_cell? wx _ y1)).trans y1; have y4 := (s.cell (World.block_lt_of_cell? wx _ y4)).trans y4; have y6 := (s.cell (World.block_lt_of_cell? wx _ y6)).trans y6; have k1 := (s.cell (World.block_lt_of_cell? wx _ k1)).trans k1
                      go_simp
                      with_reducible rfl
                    rotate_left
                    · simp only [Act.put, List.setIfInBounds_toArray, List.set_cons_zero, List.set_cons_succ, i64_w, i32_w]
                      rfl
                    refine pure_ (i := 2) (N := some 227) (v := ?_) (a' := ?_) #[true, true, true, false, false, false, false, false, false, false, false, false, false, false, false, false, false, false, false, false, false, false, false, false, false, false, false, false, false, false, false, false, false, false] rfl rfl (by kernel_rfl) (fun _ _ _ h => h) (Or.inl ⟨by rfl, ?_⟩) ?_ ?_
                    rotate_left
                    · intro w_
                      go_simp
                      with_reducible rfl
                    rotate_left
                    · simp only [Act.put, List.setIfInBounds_toArray, List.set_cons_zero, List.set_cons_succ, i64_w, i32_w]
                      rfl
                    refine pure_ (i := 3) (N := some 228) (v := ?_) (a' := ?_) #[true, true, true, true, false, false, false, false, false, false, false, false, false, false, false, false, false, false, false, false, false, false, false, false, false, false, false, false, false, false, false, false, false, false] rfl rfl (by kernel_rfl) (fun _ _ _ h => h) (Or.inl ⟨by rfl, ?_⟩) ?_ ?_
                    rotate_left
                    · intro w_
                      go_simp
                      with_reducible rfl
                    rotate_left
                    · simp only [Act.put, List.setIfInBounds_toArray, List.set_cons_zero, List.set_cons_succ, i64_w, i32_w]
                      rfl
                    refine pure_ (i := 4) (N := some 229) (v := ?_) (a' := ?_) #[true, true, true, true, true, false, false, false, false, false, false, false, false, false, false, false, false, false, false, false, false, false, false, false, false, false, false, false, false, false, false, false, false, false] rfl rfl (by kernel_rfl) (fun _ _ _ h => h) (Or.inl ⟨by rfl, ?_⟩) ?_ ?_
                    rotate_left
                    · intro w_
                      go_simp
                      with_reducible rfl
                    rotate_left
                    · simp only [Act.put, List.setIfInBounds_toArray, List.set_cons_zero, List.set_cons_succ, i64_w, i32_w]
                      rfl
                    refine take_ (i := 5) (N := some 230) (v := ?_) (a' := ?_) #[true, true, true, true, true, true, false, false, false, false, false, false, false, false, false, false, false, false, false, false, false, false, false, false, false, false, false, false, false, false, false, false, false, false] rfl rfl (by kernel_rfl) (fun _ _ _ h => h) (Or.inl ⟨by rfl, ?_⟩) HH.out ?_ ?_
                    rotate_left
                    · rintro w_ s
                      have q14 := (s.cell (World.block_lt_of_cell? wx _ q14)).trans q14; have y1 := (s.cell (World.block_lt_of_cell? wx _ y1)).trans y1; have y4 := (s.cell (World.block_lt_of_cell? wx _ y4)).trans y4; have y6 := (s.cell (World.block_lt_of_cell? wx _ y6)).trans y6; have k1 := (s.cell (World.block_lt_of_cell? wx _ k1)).trans k1
                      go_simp
                      with_reducible rfl
                    rotate_left
                    · simp only [Act.put, List.setIfInBounds_toArray, List.set_cons_zero, List.set_cons_succ, i64_w, i32_w]
                      rfl
                    refine pure_ (i := 6) (N := some 231) (v := ?_) (a' := ?_) #[true, true, true, true, true, true, true, false, false, false, false, false, false, false, false, false, false, false, false, false, false, false, false, false, false, false, false, false, false, false, false, false, false, false] rfl rfl (by kernel_rfl) (fun _ _ _ h => h) (Or.inl ⟨by rfl, ?_⟩) ?_ ?_
                    rotate_left
                    · intro w_
                      go_simp
                      with_reducible rfl
                    rotate_left
                    · simp only [Act.put, List.setIfInBounds_toArray, List.set_cons_zero, List.set_cons_succ, i64_w, i32_w]
                      rfl
                    refine take_ (i := 7) (N := some 232) (v := ?_) (a' := ?_) #[true, true, true, true, true, true, true, true, false, false, false, false, false, false, false, false, false, false, false, false, false, false, false, false, false, false, false, false, false, false, false, false, false, false] rfl rfl (by kernel_rfl) (fun _ _ _ h => h) (Or.inl ⟨by rfl, ?_⟩) HH.out ?_ ?_
                    rotate_left
                    · rintro w_ s
                      have q14 := (s.cell (World.block_lt_of_cell? wx _ q14)).trans q14; have y1 := (s.cell (World.block_lt_of_cell? wx _ y1)).trans y1; have y4 := (s.cell (World.block_lt_of_cell? wx _ y4)).trans y4; have y6 := (s.cell (World.block_lt_of_cell? wx _ y6)).trans y6; have k1 := (s.cell (World.block_lt_of_cell? wx _ k1)).trans k1
                      go_simp
                      with_reducible rfl
                    rotate_left
                    · simp only [Act.put, List.setIfInBounds_toArray, List.set_cons_zero, List.set_cons_succ, i64_w, i32_w]
                      rfl
                    refine pure_ (i := 8) (N := some 233) (v := ?_) (a' := ?_) #[true, true, true, true, true, true, true, true, true, false, false, false, false, false, false, false, false, false, false, false, false, false, false, false, false, false, false, false, false, false, false, false, false, false] rfl rfl (by kernel_rfl) (fun _ _ _ h => h) (Or.inl ⟨by rfl, ?_⟩) ?_ ?_
                    rotate_left
                    · intro w_
                      go_simp
                      with_reducible rfl
                    rotate_left
                    · simp only [Act.put, List.setIfInBounds_toArray, List.set_cons_zero, List.set_cons_succ, i64_w, i32_w]
                      rfl
                    refine pure_ (i := 9) (N := some 234) (v := ?_) (a' := ?_) #[true, true, true, true, true, true, true, true, true, true, false, false, false, false, false, false, false, false, false, false, false, false, false, false, false, false, false, false, false, false, false, false, false, false] rfl rfl (by kernel_rfl) (fun _ _ _ h => h) (Or.inl ⟨by rfl, ?_⟩) ?_ ?_
                    rotate_left
                    · intro w_
                      go_simp
                      with_reducible rfl
                    rotate_left
                    · simp only [Act.put, List.setIfInBounds_toArray, List.set_cons_zero, List.set_cons_succ, i64_w, i32_w]
                      rfl
                    refine pure_ (i := 10) (N := some 235) (v := ?_) (a' := ?_) #[true, true, true, true, true, true, true, true, true, true, true, false, false, false, false, false, false, false, false, false, false, false, false, false, false, false, false, false, false, false, false, false, false, false] rfl rfl (by kernel_rfl) (fun _ _ _ h => h) (Or.inl ⟨by rfl, ?_⟩) ?_ ?_
                    rotate_left
                    · intro w_
                      go_simp
                      with_reducible rfl
                    rotate_left
                    · simp only [Act.put, List.setIfInBounds_toArray, List.set_cons_zero, List.set_cons_succ, i64_w, i32_w]
                      rfl
                    refine pure_ (i := 11) (N := some 236) (v := ?_) (a' := ?_) #[true, true, true, true, true, true, true, true, true, true, true, true, false, false, false, false, false, false, false, false, false, false, false, false, false, false, false, false, false, false, false, false, false, false] rfl rfl (by kernel_rfl) (fun _ _ _ h => h) (Or.inl ⟨by rfl, ?_⟩) ?_ ?_
                    rotate_left
                    · intro w_
                      go_simp
                      with_reducible rfl
                    rotate_left
                    · simp only [Act.put, List.setIfInBounds_toArray, List.set_cons_zero, List.set_cons_succ, i64_w, i32_w]
                      rfl
                    refine pure_ (i := 12) (N := some 237) (v := ?_) (a' := ?_) #[true, true, true, true, true, true, true, true, true, true, true, true, true, false, false, false, false, false, false, false, false, false, false, false, false, false, false, false, false, false, false, false, false, false] rfl rfl (by kernel_rfl) (fun _ _ _ h => h) (Or.inl ⟨by rfl, ?_⟩) ?_ ?_
                    rotate_left
                    · intro w_
                      go_simp
                      with_reducible rfl
                    rotate_left
                    · simp only [Act.put, List.setIfInBounds_toArray, List.set_cons_zero, List.set_cons_succ, i64_w, i32_w]
                      rfl
                    refine take_ (i := 13) (N := some 238) (v := ?_) (a' := ?_) #[true, true, true, true, true, true, true, true, true, true, true, true, true, true, false, false, false, false, false, false, false, false, false, false, false, false, false, false, false, false, false, false, false, false] rfl rfl (by kernel_rfl) (fun _ _ _ h => h) (Or.inl ⟨by rfl, ?_⟩) HH.out ?_ ?_
                    rotate_left
                    · rintro w_ s
                      have q14 := (s.cell (World.block_lt_of_cell? wx _ q14)).trans q14; have y1 := (s.cell (World.block_lt_of_cell? wx _ y1)).trans y1; have y4 := (s.cell (World.block_lt_of_cell? wx _ y4)).trans y4; have y6 := (s.cell (World.block_lt_of_cell? wx _ y6)).trans y6; have k1 := (s.cell (World.block_lt_of_cell? wx _ k1)).trans k1
                      go_simp
                      with_reducible rfl
                    rotate_left
                    · simp only [Act.put, List.setIfInBounds_toArray, List.set_cons_zero, List.set_cons_succ, i64_w, i32_w]
                      rfl
                    refine pure_ (i := 14) (N := some 239) (v := ?_) (a' := ?_) #[true, true, true, true, true, true, true, true, true, true, true, true, true, true, true, false, false, false, false, false, false, false, false, false, false, false, false, false, false, false, false, false, false, false] rfl rfl (by kernel_rfl) (fun _ _ _ h => h) (Or.inl ⟨by rfl, ?_⟩) ?_ ?_
                    rotate_left
                    · intro w_
                      go_simp
                      with_reducible rfl
                    rotate_left
                    · simp only [Act.put, List.setIfInBounds_toArray, List.set_cons_zero, List.set_cons_succ, i64_w, i32_w]
                      rfl
                    refine pure_ (i := 15) (N := some 240) (v := ?_) (a' := ?_) #[true, true, true, true, true, true, true, true, true, true, true, true, true, true, true, true, false, false, false, false, false, false, false, false, false, false, false, false, false, false, false, false, false, false] rfl rfl (by kernel_rfl) (fun _ _ _ h => h) (Or.inl ⟨by rfl, ?_⟩) ?_ ?_
                    rotate_left
                    · intro w_
                      go_simp
                      with_reducible rfl
                    rotate_left
                    · simp only [Act.put, List.setIfInBounds_toArray, List.set_cons_zero, List.set_cons_succ, i64_w, i32_w]
                      rfl
                    refine pure_ (i := 16) (N := some 241) (v := ?_) (a' := ?_) #[true, true, true, true, true, true, true, true, true, true, true, true, true, true, true, true, true, false, false, false, false, false, false, false, false, false, false, false, false, false, false, false, false, false] rfl rfl (by kernel_rfl) (fun _ _ _ h => h) (Or.inl ⟨by rfl, ?_⟩) ?_ ?_
                    rotate_left
                    · intro w_
                      go_simp
                      with_reducible rfl
                    rotate_left
                    · simp only [Act.put, List.setIfInBounds_toArray, List.set_cons_zero, List.set_cons_succ, i64_w, i32_w]
                      rfl
                    refine pure_ (i := 17) (N := some 242) (v := undef) (a' := ?_) #[true, true, true, true, true, true, true, true, true, true, true, true, true, true, true, true, true, true, false, false, false, false, false, false, false, false, false, false, false, false, false, false, false, false] rfl rfl (by kernel_rfl) (fun _ _ _ h => h) (Or.inr ⟨by rfl, rfl⟩) ?_ ?_
                    rotate_left
                    · simp only [Act.put, List.setIfInBounds_toArray, List.set_cons_zero, List.set_cons_succ, i64_w, i32_w]
                      rfl
                    refine pure_ (i := 18) (N := some 243) (v := undef) (a' := ?_) #[true, true, true, true, true, true, true, true, true, true, true, true, true, true, true, true, true, true, true, false, false, false, false, false, false, false, false, false, false, false, false, false, false, false] rfl rfl (by kernel_rfl) (fun _ _ _ h => h) (Or.inr ⟨by rfl, rfl⟩) ?_ ?_
                    rotate_left
                    · simp only [Act.put, List.setIfInBounds_toArray, List.set_cons_zero, List.set_cons_succ, i64_w, i32_w]
                      rfl
                    refine pure_ (i := 19) (N := some 244) (v := undef) (a' := ?_) #[true, true, true, true, true, true, true, true, true, true, true, true, true, true, true, true, true, true, true, true, false, false, false, false, false, false, false, false, false, false, false, false, false, false] rfl rfl (by kernel_rfl) (fun _ _ _ h => h) (Or.inr ⟨by rfl, rfl⟩) ?_ ?_
                    rotate_left
                    · simp only [Act.put, List.setIfInBounds_toArray, List.set_cons_zero, List.set_cons_succ, i64_w, i32_w]
                      rfl
                    refine pure_ (i := 20) (N := some 245) (v := undef) (a' := ?_) #[true, true, true, true, true, true, true, true, true, true, true, true, true, true, true, true, true, true, true, true, true, false, false, false, false, false, false, false, false, false, false, false, false, false] rfl rfl (by kernel_rfl) (fun _ _ _ h => h) (Or.inr ⟨by rfl, rfl⟩) ?_ ?_
                    rotate_left
                    · simp only [Act.put, List.setIfInBounds_toArray, List.set_cons_zero, List.set_cons_succ, i64_w, i32_w]
                      rfl
                    refine pure_ (i := 21) (N := some 246) (v := undef) (a' := ?_) #[true, true, true, true, true, true, true, true, true, true, true, true, true, true, true, true, true, true, true, true, true, true, false, false, false, false, false, false, false, false, false, false, false, false] rfl rfl (by kernel_rfl) (fun _ _ _ h => h) (Or.inr ⟨by rfl, rfl⟩) ?_ ?_
                    rotate_left
                    · simp only [Act.put, List.setIfInBounds_toArray, List.set_cons_zero, List.set_cons_succ, i64_w, i32_w]
                      rfl
                    refine pure_ (i := 22) (N := some 247) (v := undef) (a' := ?_) #[true, true, true, true, true, true, true, true, true, true, true, true, true, true, true, true, true, true, true, true, true, true, true, false, false, false, false, false, false, false, false, false, false, false] rfl rfl (by kernel_rfl) (fun _ _ _ h => h) (Or.inr ⟨by rfl, rfl⟩) ?_ ?_
                    rotate_left
                    · simp only [Act.put, List.setIfInBounds_toArray, List.set_cons_zero, List.set_cons_succ, i64_w, i32_w]
                      rfl
                    refine pure_ (i := 23) (N := some 248) (v := undef) (a' := ?_) #[true, true, true, true, true, true, true, true, true, true, true, true, true, true, true, true, true, true, true, true, true, true, true, true, false, false, false, false, false, false, false, false, false, false] rfl rfl (by kernel_rfl) (fun _ _ _ h => h) (Or.inr ⟨by rfl, rfl⟩) ?_ ?_
                    rotate_left
                    · simp only [Act.put, List.setIfInBounds_toArray, List.set_cons_zero, List.set_cons_succ, i64_w, i32_w]
                      rfl
                    refine pure_ (i := 24) (N := some 249) (v := undef) (a' := ?_) #[true, true, true, true, true, true, true, true, true, true, true, true, true, true, true, true, true, true, true, true, true, true, true, true, true, false, false, false, false, false, false, false, false, false] rfl rfl (by kernel_rfl) (fun _ _ _ h => h) (Or.inr ⟨by rfl, rfl⟩) ?_ ?_
                    rotate_left
                    · simp only [Act.put, List.setIfInBounds_toArray, List.set_cons_zero, List.set_cons_succ, i64_w, i32_w]
                      rfl
                    refine pure_ (i := 25) (N := some 250) (v := undef) (a' := ?_) #[true, true, true, true, true, true, true, true, true, true, true, true, true, true, true, true, true, true, true, true, true, true, true, true, true, true, false, false, false, false, false, false, false, false] rfl rfl (by kernel_rfl) (fun _ _ _ h => h) (Or.inr ⟨by rfl, rfl⟩) ?_ ?_
                    rotate_left
                    · simp only [Act.put, List.setIfInBounds_toArray, List.set_cons_zero, List.set_cons_succ, i64_w, i32_w]
                      rfl
                    refine pure_ (i := 26) (N := some 251) (v := undef) (a' := ?_) #[true, true, true, true, true, true, true, true, true, true, true, true, true, true, true, true, true, true, true, true, true, true, true, true, true, true, true, false, false, false, false, false, false, false] rfl rfl (by kernel_rfl) (fun _ _ _ h => h) (Or.inr ⟨by rfl, rfl⟩) ?_ ?_
                    rotate_left
                    · simp only [Act.put, List.setIfInBounds_toArray, List.set_cons_zero, List.set_cons_succ, i64_w, i32_w]
                      rfl
                    refine pure_ (i := 27) (N := some 252) (v := undef) (a' := ?_) #[true, true, true, true, true, true, true, true, true, true, true, true, true, true, true, true, true, true, true, true, true, true, true, true, true, true, true, true, false, false, false, false, false, false] rfl rfl (by kernel_rfl) (fun _ _ _ h => h) (Or.inr ⟨by rfl, rfl⟩) ?_ ?_
                    rotate_left
                    · simp only [Act.put, List.setIfInBounds_toArray, List.set_cons_zero, List.set_cons_succ, i64_w, i32_w]
                      rfl
                    refine pure_ (i := 28) (N := some 253) (v := undef) (a' := ?_) #[true, true, true, true, true, true, true, true, true, true, true, true, true, true, true, true, true, true, true, true, true, true, true, true, true, true, true, true, true, false, false, false, false, false] rfl rfl (by kernel_rfl) (fun _ _ _ h => h) (Or.inr ⟨by rfl, rfl⟩) ?_ ?_
                    rotate_left
                    · simp only [Act.put, List.setIfInBounds_toArray, List.set_cons_zero, List.set_cons_succ, i64_w, i32_w]
                      rfl
                    refine pure_ (i := 29) (N := some 254) (v := undef) (a' := ?_) #[true, true, true, true, true, true, true, true, true, true, true, true, true, true, true, true, true, true, true, true, true, true, true, true, true, true, true, true, true, true, false, false, false, false] rfl rfl (by kernel_rfl) (fun _ _ _ h => h) (Or.inr ⟨by rfl, rfl⟩) ?_ ?_
                    rotate_left
                    · simp only [Act.put, List.setIfInBounds_toArray, List.set_cons_zero, List.set_cons_succ, i64_w, i32_w]
                      rfl
                    refine pure_ (i := 30) (N := some 255) (v := undef) (a' := ?_) #[true, true, true, true, true, true, true, true, true, true, true, true, true, true, true, true, true, true, true, true, true, true, true, true, true, true, true, true, true, true, true, false, false, false] rfl rfl (by kernel_rfl) (fun _ _ _ h => h) (Or.inr ⟨by rfl, rfl⟩) ?_ ?_
                    rotate_left
                    · simp only [Act.put, List.setIfInBounds_toArray, List.set_cons_zero, List.set_cons_succ, i64_w, i32_w]
                      rfl
                    refine pure_ (i := 31) (N := some 256) (v := undef) (a' := ?_) #[true, true, true, true, true, true, true, true, true, true, true, true, true, true, true, true, true, true, true, true, true, true, true, true, true, true, true, true, true, true, true, true, false, false] rfl rfl (by kernel_rfl) (fun _ _ _ h => h) (Or.inr ⟨by rfl, rfl⟩) ?_ ?_
                    rotate_left
                    · simp only [Act.put, List.setIfInBounds_toArray, List.set_cons_zero, List.set_cons_succ, i64_w, i32_w]
                      rfl
                    refine pure_ (i := 32) (N := some 257) (v := ?_) (a' := ?_) #[true, true, true, true, true, true, true, true, true, true, true, true, true, true, true, true, true, true, true, true, true, true, true, true, true, true, true, true, true, true, true, true, true, false] rfl rfl (by kernel_rfl) (fun _ _ _ h => h) (Or.inl ⟨by rfl, ?_⟩) ?_ ?_
                    rotate_left
                    · intro w_
                      go_simp
                      with_reducible rfl
                    rotate_left
                    · simp only [Act.put, List.setIfInBounds_toArray, List.set_cons_zero, List.set_cons_succ, i64_w, i32_w]
                      rfl
                    refine pure_ (i := 33) (N := some 258) (v := ?_) (a' := ?_) #[true, true, true, true, true, true, true, true, true, true, true, true, true, true, true, true, true, true, true, true, true, true, true, true, true, true, true, true, true, true, true, true, true, true] rfl rfl (by kernel_rfl) (fun _ _ _ h => h) (Or.inl ⟨by rfl, ?_⟩) ?_ ?_
                    rotate_left
                    · intro w_
                      go_simp
                      with_reducible rfl
                    rotate_left
                    · simp only [Act.put, List.setIfInBounds_toArray, List.set_cons_zero, List.set_cons_succ, i64_w, i32_w]
                      rfl
                    refine done_ (by kernel_rfl) ?_
                    go_wp2_with fail
                    go_roundw
                    case rel => exact ⟨i + 1, HLT.out, by go_num, ⟨HS.out.below HH.out⟩⟩
                    case measure => have := HLT.out; simp [intOf]; omega
                  · obtain ⟨h3, h4⟩ := h2 hn
                    have n0 : decide ((0 : Int) < (n : Int)) = true := decide_eq_true (by omega)
                    have n1 : 0 < n := by omega
                    have n2 : decide (f4 < 1) = false := decide_eq_false (by omega)
                    have n3 : decide (mx < f4) = false := decide_eq_false (by omega)
                    clear hn h3 h4 h2
                    refine start_ (n := 34) (S := fun w_ => Below wx.heap.size wx w_) (ds := []) #[false, false, false, false, false, false, false, false, false, false, false, false, false, false, false, false, false, false, false, false, false, false, false, false, false, false, false, false, false, false, false, false, false, false] (by kernel_rfl) rfl rfl (drew_below wx) (fun hHeld => ?_)
                    have HH := Aside0.mk hHeld
                    clear hHeld
                    generalize wx.drew = wv at HH ⊢
                    refine pure_ (i := 0) (N := some 225) (v := ?_) (a' := ?_) #[true, false, false, false, false, false, false, false, false, false, false, false, false, false, false, false, false, false, false, false, false, false, false, false, false, false, false, false, false, false, false, false, false, false] rfl rfl (by kernel_rfl) (fun _ _ _ h => h) (Or.inl ⟨by rfl, ?_⟩) ?_ ?_
                    rotate_left
                    · intro w_
                      go_simp
                      with_reducible rfl
                    rotate_left
                    · simp only [Act.put, List.setIfInBounds_toArray, List.set_cons_zero, List.set_cons_succ, i64_w, i32_w]
                      rfl
                    refine take_ (i := 1) (N := some 226) (v := ?_) (a' := ?_) #[true, true, false, false, false, false, false, false, false, false, false, false, false, false, false, false, false, false, false, false, false, false, false, false, false, false, false, false, false, false, false, false, false, false] rfl rfl (by kernel_rfl) (fun _ _ _ h => h) (Or.inl ⟨by rfl, ?_⟩) HH.out ?_ ?_
                    rotate_left
                    · rintro w_ s
                      have q14 := (s.cell (World.block_lt_of_cell? wx _ q14)).trans q14; have y1 := (s.cell (World.block_lt_of_cell? wx _ y1)).trans y1; have y4 := (s.cell (World.block_lt_of_cell? wx _ y4)).trans y4; have y6 := (s.cell (World.block_lt_of_cell? wx _ y6)).trans y6; have k1 := (s.cell (World.block_lt_of_cell? wx _ k1)).trans k1
                      go_simp
                      with_reducible rfl
                    rotate_left
                    · simp only [Act.put, List.setIfInBounds_toArray, List.set_cons_zero, List.set_cons_succ, i64_w, i32_w]
                      rfl
                    refine pure_ (i := 2) (N := some 227) (v := ?_) (a' := ?_) #[true, true, true, false, false, false, false, false, false, false, false, false, false, false, false, false, false, false, false, false, false, false, false, false, false, false, false, false, false, false, false, false, false, false] rfl rfl (by kernel_rfl) (fun _ _ _ h => h) (Or.inl ⟨by rfl, ?_⟩) ?_ ?_
                    rotate_left
                    · intro w_
                      go_simp
                      with_reducible rfl
                    rotate_left
                    · simp only [Act.put, List.setIfInBounds_toArray, List.set_cons_zero, List.set_cons_succ, i64_w, i32_w]
                      rfl
                    refine pure_ (i := 3) (N := some 228) (v := ?_) (a' := ?_) #[true, true, true, true, false, false, false, false, false, false, false, false, false, false, false, false, false, false, false, false, false, false, false, false, false, false, false, false, false, false, false, false, false, false] rfl rfl (by kernel_rfl) (fun _ _ _ h => h) (Or.inl ⟨by rfl, ?_⟩) ?_ ?_
                    rotate_left
                    · intro w_
                      go_simp
                      with_reducible rfl
                    rotate_left
                    · simp only [Act.put, List.setIfInBounds_toArray, List.set_cons_zero, List.set_cons_succ, i64_w, i32_w]
                      rfl
                    refine pure_ (i := 4) (N := some 229) (v := ?_) (a' := ?_) #[true, true, true, true, true, false, false, false, false, false, false, false, false, false, false, false, false, false, false, false, false, false, false, false, false, false, false, false, false, false, false, false, false, false] rfl rfl (by kernel_rfl) (fun _ _ _ h => h) (Or.inl ⟨by rfl, ?_⟩) ?_ ?_
                    rotate_left
                    · intro w_
                      go_simp
                      with_reducible rfl
                    rotate_left
                    · simp only [Act.put, List.setIfInBounds_toArray, List.set_cons_zero, List.set_cons_succ, i64_w, i32_w]
                      rfl
                    refine take_ (i := 5) (N := some 230) (v := ?_) (a' := ?_) #[true, true, true, true, true, true, false, false, false, false, false, false, false, false, false, false, false, false, false, false, false, false, false, false, false, false, false, false, false, false, false, false, false, false] rfl rfl (by kernel_rfl) (fun _ _ _ h => h) (Or.inl ⟨by rfl, ?_⟩) HH.out ?_ ?_
                    rotate_left
                    · rintro w_ s
                      have q14 := (s.cell (World.block_lt_of_cell? wx _ q14)).trans q14; have y1 := (s.cell (World.block_lt_of_cell? wx _ y1)).trans y1; have y4 := (s.cell (World.block_lt_of_cell? wx _ y4)).trans y4; have y6 := (s.cell (World.block_lt_of_cell? wx _ y6)).trans y6; have k1 := (s.cell (World.block_lt_of_cell? wx _ k1)).trans k1
                      go_simp
                      with_reducible rfl
                    rotate_left
                    · simp only [Act.put, List.setIfInBounds_toArray, List.set_cons_zero, List.set_cons_succ, i64_w, i32_w]
                      rfl
                    refine pure_ (i := 6) (N := some 231) (v := ?_) (a' := ?_) #[true, true, true, true, true, true, true, false, false, false, false, false, false, false, false, false, false, false, false, false, false, false, false, false, false, false, false, false, false, false, false, false, false, false] rfl rfl (by kernel_rfl) (fun _ _ _ h => h) (Or.inl ⟨by rfl, ?_⟩) ?_ ?_
                    rotate_left
                    · intro w_
                      go_simp
                      with_reducible rfl
                    rotate_left
                    · simp only [Act.put, List.setIfInBounds_toArray, List.set_cons_zero, List.set_cons_succ, i64_w, i32_w]
                      rfl
                    refine take_ (i := 7) (N := some 232) (v := ?_) (a' := ?_) #[true, true, true, true, true, true, true, true, false, false, false, false, false, false, false, false, false, false, false, false, false, false, false, false, false, false, false, false, false, false, false, false, false, false] rfl rfl (by kernel_rfl) (fun _ _ _ h => h) (Or.inl ⟨by rfl, ?_⟩) HH.out ?_ ?_
                    rotate_left
                    · rintro w_ s
                      have q14 := (s.cell (World.block_lt_of_cell? wx _ q14)).trans q14; have y1 := (s.cell (World.block_lt_of_cell? wx _ y1)).trans y1; have y4 := (s.cell (World.block_lt_of_cell? wx _ y4)).trans y4; have y6 := (s.cell (World.block_lt_of_cell? wx _ y6)).trans y6; have k1 := (s.cell (World.block_lt_of_cell? wx _ k1)).trans k1
                      go_simp
                      with_reducible rfl
                    rotate_left
                    · simp only [Act.put, List.setIfInBounds_toArray, List.set_cons_zero, List.set_cons_succ, i64_w, i32_w]
                      rfl
                    refine pure_ (i := 8) (N := some 233) (v := ?_) (a' := ?_) #[true, true, true, true, true, true, true, true, true, false, false, false, false, false, false, false, false, false, false, false, false, false, false, false, false, false, false, false, false, false, false, false, false, false] rfl rfl (by kernel_rfl) (fun _ _ _ h => h) (Or.inl ⟨by rfl, ?_⟩) ?_ ?_
                    rotate_left
                    · intro w_
                      go_simp
                      with_reducible rfl
                    rotate_left
                    · simp only [Act.put, List.setIfInBounds_toArray, List.set_cons_zero, List.set_cons_succ, i64_w, i32_w]
                      rfl
                    refine pure_ (i := 9) (N := some 234) (v := ?_) (a' := ?_) #[true, true, true, true, true, true, true, true, true, true, false, false, false, false, false, false, false, false, false, false, false, false, false, false, false, false, false, false, false, false, false, false, false, false] rfl rfl (by kernel_rfl) (fun _ _ _ h => h) (Or.inl ⟨by rfl, ?_⟩) ?_ ?_
                    rotate_left
                    · intro w_
                      go_simp
                      with_reducible rfl
                    rotate_left
                    · simp only [Act.put, List.setIfInBounds_toArray, List.set_cons_zero, List.set_cons_succ, i64_w, i32_w]
                      rfl
                    refine pure_ (i := 10) (N := some 235) (v := ?_) (a' := ?_) #[true, true, true, true, true, true, true, true, true, true, true, false, false, false, false, false, false, false, false, false, false, false, false, false, false, false, false, false, false, false, false, false, false, false] rfl rfl (by kernel_rfl) (fun _ _ _ h => h) (Or.inl ⟨by rfl, ?_⟩) ?_ ?_
                    rotate_left
                    · intro w_
                      go_simp
                      with_reducible rfl
                    rotate_left
                    · simp only [Act.put, List.setIfInBounds_toArray, List.set_cons_zero, List.set_cons_succ, i64_w, i32_w]
                      rfl
                    refine pure_ (i := 11) (N := some 236) (v := ?_) (a' := ?_) #[true, true, true, true, true, true, true, true, true, true, true, true, false, false, false, false, false, false, false, false, false, false, false, false, false, false, false, false, false, false, false, false, false, false] rfl rfl (by kernel_rfl) (fun _ _ _ h => h) (Or.inl ⟨by rfl, ?_⟩) ?_ ?_
                    rotate_left
                    · intro w_
                      go_simp
                      with_reducible rfl
                    rotate_left
                    · simp only [Act.put, List.setIfInBounds_toArray, List.set_cons_zero, List.set_cons_succ, i64_w, i32_w]
                      rfl
                    refine pure_ (i := 12) (N := some 237) (v := ?_) (a' := ?_) #[true, true, true, true, true, true, true, true, true, true, true, true, true, false, false, false, false, false, false, false, false, false, false, false, false, false, false, false, false, false, false, false, false, false] rfl rfl (by kernel_rfl) (fun _ _ _ h => h) (Or.inl ⟨by rfl, ?_⟩) ?_ ?_
                    rotate_left
                    · intro w_
                      go_simp
                      with_reducible rfl
                    rotate_left
                    · simp only [Act.put, List.setIfInBounds_toArray, List.set_cons_zero, List.set_cons_succ, i64_w, i32_w]
                      rfl
                    refine take_ (i := 13) (N := some 238) (v := ?_) (a' := ?_) #[true, true, true, true, true, true, true, true, true, true, true, true, true, true, false, false, false, false, false, false, false, false, false, false, false, false, false, false, false, false, false, false, false, false] rfl rfl (by kernel_rfl) (fun _ _ _ h => h) (Or.inl ⟨by rfl, ?_⟩) HH.out ?_ ?_
                    rotate_left
                    · rintro w_ s
                      have q14 := (s.cell (World.block_lt_of_cell? wx _ q14)).trans q14; have y1 := (s.cell (World.block_lt_of_cell? wx _ y1)).trans y1; have y4 := (s.cell (World.block_lt_of_cell? wx _ y4)).trans y4; have y6 := (s.cell (World.block_lt_of_cell? wx _ y6)).trans y6; have k1 := (s.cell (World.block_lt_of_cell? wx _ k1)).trans k1
                      go_simp
                      with_reducible rfl
                    rotate_left
                    · simp only [Act.put, List.setIfInBounds_toArray, List.set_cons_zero, List.set_cons_succ, i64_w, i32_w]
                      rfl
                    refine pure_ (i := 14) (N := some 239) (v := ?_) (a' := ?_) #[true, true, true, true, true, true, true, true, true, true, true, true, true, true, true, false, false, false, false, false, false, false, false, false, false, false, false, false, false, false, false, false, false, false] rfl rfl (by kernel_rfl) (fun _ _ _ h => h) (Or.inl ⟨by rfl, ?_⟩) ?_ ?_
                    rotate_left
                    · intro w_
                      go_simp
                      with_reducible rfl
                    rotate_left
                    · simp only [Act.put, List.setIfInBounds_toArray, List.set_cons_zero, List.set_cons_succ, i64_w, i32_w]
                      rfl
                    refine pure_ (i := 15) (N := some 240) (v := ?_) (a' := ?_) #[true, true, true, true, true, true, true, true, true, true, true, true, true, true, true, true, false, false, false, false, false, false, false, false, false, false, false, false, false, false, false, false, false, false] rfl rfl (by kernel_rfl) (fun _ _ _ h => h) (Or.inl ⟨by rfl, ?_⟩) ?_ ?_
                    rotate_left
                    · intro w_
                      go_simp
                      with_reducible rfl
                    rotate_left
                    · simp only [Act.put, List.setIfInBounds_toArray, List.set_cons_zero, List.set_cons_succ, i64_w, i32_w]
                      rfl
                    refine pure_ (i := 16) (N := some 241) (v := ?_) (a' := ?_) #[true, true, true, true, true, true, true, true, true, true, true, true, true, true, true, true, true, false, false, false, false, false, false, false, false, false, false, false, false, false, false, false, false, false] rfl rfl (by kernel_rfl) (fun _ _ _ h => h) (Or.inl ⟨by rfl, ?_⟩) ?_ ?_
                    rotate_left
                    · intro w_
                      go_simp
                      with_reducible rfl
                    rotate_left
                    · simp only [Act.put, List.setIfInBounds_toArray, List.set_cons_zero, List.set_cons_succ, i64_w, i32_w]
                      rfl
                    refine pure_ (i := 17) (N := some 242) (v := ?_) (a' := ?_) #[true, true, true, true, true, true, true, true, true, true, true, true, true, true, true, true, true, true, false, false, false, false, false, false, false, false, false, false, false, false, false, false, false, false] rfl rfl (by kernel_rfl) (fun _ _ _ h => h) (Or.inl ⟨by rfl, ?_⟩) ?_ ?_
                    rotate_left
                    · intro w_
                      go_simp
                      with_reducible rfl
                    rotate_left
                    · simp only [Act.put, List.setIfInBounds_toArray, List.set_cons_zero, List.set_cons_succ, i64_w, i32_w]
                      rfl
                    refine take_ (i := 18) (N := some 243) (v := ?_) (a' := ?_) #[true, true, true, true, true, true, true, true, true, true, true, true, true, true, true, true, true, true, true, false, false, false, false, false, false, false, false, false, false, false, false, false, false, false] rfl rfl (by kernel_rfl) (fun _ _ _ h => h) (Or.inl ⟨by rfl, ?_⟩) HH.out ?_ ?_
                    rotate_left
                    · rintro w_ s
                      have q14 := (s.cell (World.block_lt_of_cell? wx _ q14)).trans q14; have y1 := (s.cell (World.block_lt_of_cell? wx _ y1)).trans y1; have y4 := (s.cell (World.block_lt_of_cell? wx _ y4)).trans y4; have y6 := (s.cell (World.block_lt_of_cell? wx _ y6)).trans y6; have k1 := (s.cell (World.block_lt_of_cell? wx _ k1)).trans k1
                      go_simp
                      with_reducible rfl
                    rotate_left
                    · simp only [Act.put, List.setIfInBounds_toArray, List.set_cons_zero, List.set_cons_succ, i64_w, i32_w]
                      rfl
                    refine pure_ (i := 19) (N := some 244) (v := ?_) (a' := ?_) #[true, true, true, true, true, true, true, true, true, true, true, true, true, true, true, true, true, true, true, true, false, false, false, false, false, false, false, false, false, false, false, false, false, false] rfl rfl (by kernel_rfl) (fun _ _ _ h => h) (Or.inl ⟨by rfl, ?_⟩) ?_ ?_
                    rotate_left
                    · intro w_
                      go_simp
                      with_reducible rfl
                    rotate_left
                    · simp only [Act.put, List.setIfInBounds_toArray, List.set_cons_zero, List.set_cons_succ, i64_w, i32_w]
                      rfl
                    refine pure_ (i := 20) (N := some 245) (v := ?_) (a' := ?_) #[true, true, true, true, true, true, true, true, true, true, true, true, true, true, true, true, true, true, true, true, true, false, false, false, false, false, false, false, false, false, false, false, false, false] rfl rfl (by kernel_rfl) (fun _ _ _ h => h) (Or.inl ⟨by rfl, ?_⟩) ?_ ?_
                    rotate_left
                    · intro w_
                      go_simp
                      with_reducible rfl
                    rotate_left
                    · simp only [Act.put, List.setIfInBounds_toArray, List.set_cons_zero, List.set_cons_succ, i64_w, i32_w]
                      rfl
                    refine pure_ (i := 21) (N := some 246) (v := ?_) (a' := ?_) #[true, true, true, true, true, true, true, true, true, true, true, true, true, true, true, true, true, true, true, true, true, true, false, false, false, false, false, false, false, false, false, false, false, false] rfl rfl (by kernel_rfl) (fun _ _ _ h => h) (Or.inl ⟨by rfl, ?_⟩) ?_ ?_
                    rotate_left
                    · intro w_
                      go_simp
                      with_reducible rfl
                    rotate_left
                    · simp only [Act.put, List.setIfInBounds_toArray, List.set_cons_zero, List.set_cons_succ, i64_w, i32_w]
                      rfl
                    refine take_ (i := 22) (N := some 247) (v := ?_) (a' := ?_) #[true, true, true, true, true, true, true, true, true, true, true, true, true, true, true, true, true, true, true, true, true, true, true, false, false, false, false, false, false, false, false, false, false, false] rfl rfl (by kernel_rfl) (fun _ _ _ h => h) (Or.inl ⟨by rfl, ?_⟩) HH.out ?_ ?_
                    rotate_left
                    · rintro w_ s
                      have q14 := (s.cell (World.block_lt_of_cell? wx _ q14)).trans q14; have y1 := (s.cell (World.block_lt_of_cell? wx _ y1)).trans y1; have y4 := (s.cell (World.block_lt_of_cell? wx _ y4)).trans y4; have y6 := (s.cell (World.block_lt_of_cell? wx _ y6)).trans y6; have k1 := (s.cell (World.block_lt_of_cell? wx _ k1)).trans k1
                      go_simp
                      with_reducible rfl
                    rotate_left
                    · simp only [Act.put, List.setIfInBounds_toArray, List.set_cons_zero, List.set_cons_succ, i64_w, i32_w]
                      rfl
                    refine pure_ (i := 23) (N := some 248) (v := ?_) (a' := ?_) #[true, true, true, true, true, true, true, true, true, true, true, true, true, true, true, true, true, true, true, true, true, true, true, true, false, false, false, false, false, false, false, false, false, false] rfl rfl (by kernel_rfl) (fun _ _ _ h => h) (Or.inl ⟨by rfl, ?_⟩) ?_ ?_
                    rotate_left
                    · intro w_
                      go_simp
                      with_reducible rfl
                    rotate_left
                    · simp only [Act.put, List.setIfInBounds_toArray, List.set_cons_zero, List.set_cons_succ, i64_w, i32_w]
                      rfl
                    refine take_ (i := 24) (N := some 249) (v := ?_) (a' := ?_) #[true, true, true, true, true, true, true, true, true, true, true, true, true, true, true, true, true, true, true, true, true, true, true, true, true, false, false, false, false, false, false, false, false, false] rfl rfl (by kernel_rfl) (fun _ _ _ h => h) (Or.inl ⟨by rfl, ?_⟩) HH.out ?_ ?_
                    rotate_left
                    · rintro w_ s
                      have q14 := (s.cell (World.block_lt_of_cell? wx _ q14)).trans q14; have y1 := (s.cell (World.block_lt_of_cell? wx _ y1)).trans y1; have y4 := (s.cell (World.block_lt_of_cell? wx _ y4)).trans y4; have y6 := (s.cell (World.block_lt_of_cell? wx _ y6)).trans y6; have k1 := (s.cell (World.block_lt_of_cell? wx _ k1)).trans k1
                      go_simp
                      with_reducible rfl
                    rotate_left
                    · simp only [Act.put, List.setIfInBounds_toArray, List.set_cons_zero, List.set_cons_succ, i64_w, i32_w]
                      rfl
                    refine pure_ (i := 25) (N := some 250) (v := ?_) (a' := ?_) #[true, true, true, true, true, true, true, true, true, true, true, true, true, true, true, true, true, true, true, true, true, true, true, true, true, true, false, false, false, false, false, false, false, false] rfl rfl (by kernel_rfl) (fun _ _ _ h => h) (Or.inl ⟨by rfl, ?_⟩) ?_ ?_
                    rotate_left
                    · intro w_
                      go_simp
                      with_reducible rfl
                    rotate_left
                    · simp only [Act.put, List.setIfInBounds_toArray, List.set_cons_zero, List.set_cons_succ, i64_w, i32_w]
                      rfl
                    refine take_ (i := 26) (N := some 251) (v := ?_) (a' := ?_) #[true, true, true, true, true, true, true, true, true, true, true, true, true, true, true, true, true, true, true, true, true, true, true, true, true, true, true, false, false, false, false, false, false, false] rfl rfl (by kernel_rfl) (fun _ _ _ h => h) (Or.inl ⟨by rfl, ?_⟩) HH.out ?_ ?_
                    rotate_left
                    · rintro w_ s
                      have q14 := (s.cell (World.block_lt_of_cell? wx _ q14)).trans q14; have y1 := (s.cell (World.block_lt_of_cell? wx _ y1)).trans y1; have y4 := (s.cell (World.block_lt_of_cell? wx _ y4)).trans y4; have y6 := (s.cell (World.block_lt_of_cell? wx _ y6)).trans y6; have k1 := (s.cell (World.block_lt_of_cell? wx _ k1)).trans k1
                      go_simp
                      with_reducible rfl
                    rotate_left
                    · simp only [Act.put, List.setIfInBounds_toArray, List.set_cons_zero, List.set_cons_succ, i64_w, i32_w]
                      rfl
                    refine pure_ (i := 27) (N := some 252) (v := ?_) (a' := ?_) #[true, true, true, true, true, true, true, true, true, true, true, true, true, true, true, true, true, true, true, true, true, true, true, true, true, true, true, true, false, false, false, false, false, false] rfl rfl (by kernel_rfl) (fun _ _ _ h => h) (Or.inl ⟨by rfl, ?_⟩) ?_ ?_
                    rotate_left
                    · intro w_
                      go_simp
                      with_reducible rfl
                    rotate_left
                    · simp only [Act.put, List.setIfInBounds_toArray, List.set_cons_zero, List.set_cons_succ, i64_w, i32_w]
                      rfl
                    refine pure_ (i := 28) (N := some 253) (v := ?_) (a' := ?_) #[true, true, true, true, true, true, true, true, true, true, true, true, true, true, true, true, true, true, true, true, true, true, true, true, true, true, true, true, true, false, false, false, false, false] rfl rfl (by kernel_rfl) (fun _ _ _ h => h) (Or.inl ⟨by rfl, ?_⟩) ?_ ?_
                    rotate_left
                    · intro w_
                      go_simp
                      with_reducible rfl
                    rotate_left
                    · simp only [Act.put, List.setIfInBounds_toArray, List.set_cons_zero, List.set_cons_succ, i64_w, i32_w]
                      rfl
                    refine take_ (i := 29) (N := some 254) (v := ?_) (a' := ?_) #[true, true, true, true, true, true, true, true, true, true, true, true, true, true, true, true, true, true, true, true, true, true, true, true, true, true, true, true, true, true, false, false, false, false] rfl rfl (by kernel_rfl) (fun _ _ _ h => h) (Or.inl ⟨by rfl, ?_⟩) HH.out ?_ ?_
                    rotate_left
                    · rintro w_ s
                      have q14 := (s.cell (World.block_lt_of_cell? wx _ q14)).trans q14; have y1 := (s.cell (World.block_lt_of_cell? wx _ y1)).trans y1; have y4 := (s.cell (World.block_lt_of_cell? wx _ y4)).trans y4; have y6 := (s.cell (World.block_lt_of_cell? wx _ y6)).trans y6; have k1 := (s.cell (World.block_lt_of_cell? wx _ k1)).trans k1
                      go_simp
                      with_reducible rfl
                    rotate_left
                    · simp only [Act.put, List.setIfInBounds_toArray, List.set_cons_zero, List.set_cons_succ, i64_w, i32_w]
                      rfl
                    refine pure_ (i := 30) (N := some 255) (v := ?_) (a' := ?_) #[true, true, true, true, true, true, true, true, true, true, true, true, true, true, true, true, true, true, true, true, true, true, true, true, true, true, true, true, true, true, true, false, false, false] rfl rfl (by kernel_rfl) (fun _ _ _ h => h) (Or.inl ⟨by rfl, ?_⟩) ?_ ?_
                    rotate_left
                    · intro w_
                      go_simp
                      with_reducible rfl
                    rotate_left
                    · simp only [Act.put, List.setIfInBounds_toArray, List.set_cons_zero, List.set_cons_succ, i64_w, i32_w]
                      rfl
                    refine pure_ (i := 31) (N := some 256) (v := ?_) (a' := ?_) #[true, true, true, true, true, true, true, true, true, true, true, true, true, true, true, true, true, true, true, true, true, true, true, true, true, true, true, true, true, true, true, true, false, false] rfl rfl (by kernel_rfl) (fun _ _ _ h => h) (Or.inl ⟨by rfl, ?_⟩) ?_ ?_
                    rotate_left
                    · intro w_
                      go_simp
                      with_reducible rfl
                    rotate_left
                    · simp only [Act.put, List.setIfInBounds_toArray, List.set_cons_zero, List.set_cons_succ, i64_w, i32_w]
                      rfl
                    refine pure_ (i := 32) (N := some 257) (v := ?_) (a' := ?_) #[true, true, true, true, true, true, true, true, true, true, true, true, true, true, true, true, true, true, true, true, true, true, true, true, true, true, true, true, true, true, true, true, true, false] rfl rfl (by kernel_rfl) (fun _ _ _ h => h) (Or.inl ⟨by rfl, ?_⟩) ?_ ?_
                    rotate_left
                    · intro w_
                      go_simp
                      with_reducible rfl
                    rotate_left
                    · simp only [Act.put, List.setIfInBounds_toArray, List.set_cons_zero, List.set_cons_succ, i64_w, i32_w]
                      rfl
                    refine pure_ (i := 33) (N := some 258) (v := ?_) (a' := ?_) #[true, true, true, true, true, true, true, true, true, true, true, true, true, true, true, true, true, true, true, true, true, true, true, true, true, true, true, true, true, true, true, true, true, true] rfl rfl (by kernel_rfl) (fun _ _ _ h => h) (Or.inl ⟨by rfl, ?_⟩) ?_ ?_
                    rotate_left
                    · intro w_
                      go_simp
                      with_reducible rfl
                    rotate_left
                    · simp only [Act.put, List.setIfInBounds_toArray, List.set_cons_zero, List.set_cons_succ, i64_w, i32_w]
                      rfl
                    refine done_ (by kernel_rfl) ?_
                    go_wp2_with fail
                    go_roundw
                    case rel => exact ⟨i + 1, HLT.out, by go_num, ⟨HS.out.below HH.out⟩⟩
                    case measure => have := HLT.out; simp [intOf]; omega
              · have hd : decide ((i : Int) < (c.f7.length : Int)) = false := decide_eq_false (by omega)
                go_wp2_with fail
                refine (heads_calls wr HS.out.gl).mono ?_
                rintro e w3 ⟨rfl, B3⟩
                go_wp2_with fail
                go_ret
                exact ⟨rfl, HS.out.bel.trans (B3.mono HS.out.bel.size)⟩
end Go.Proofs.YthckjbmgeidkgaaDoor.XA
