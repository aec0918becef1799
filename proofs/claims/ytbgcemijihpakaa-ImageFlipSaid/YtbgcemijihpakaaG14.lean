/- package table's messages. -/
import Derived.Test.YtbgcemijihpakaaG13
namespace Go.Proofs.Ytbgcemijihpakaa.XA
set_option linter.unusedVariables false
set_option linter.unusedSimpArgs false
open Go.RowKit Go.WideMaps Go.Maps Go.Proofs.YtbgcemijihpakaaW.PrintWords Go.Proofs.YtbgcemijihpakaaW.PrintLast Go.Proofs.YtbgcemijihpakaaW.PrintMore
def eq100 (x y : S100) : Bool := x.f0 == y.f0 && (x.f1 == y.f1 && (x.f2 == y.f2))
theorem neq100 (w : World) (x y : S100) : (binOp .neq 100 (.agg #[.int .i64 x.f0, .int .i64 x.f1, .int .u32 x.f2]) (.agg #[.int .i64 y.f0, .int .i64 y.f1, .int .u32 y.f2])).run Try.prog w = .ok (.bool (!eq100 x y)) w := by
 rw [run_neq_struct, eqA100 9998 w]
 rfl
theorem run_neq100 {o : Oper} {a : Act} (w : World) (s u : S100) (x y : Operand) (ho : o.op = .binOp .neq 100 x y 100) (hx : a.eval x = .agg #[.int .i64 s.f0, .int .i64 s.f1, .int .u32 s.f2]) (hy : a.eval y = .agg #[.int .i64 u.f0, .int .i64 u.f1, .int .u32 u.f2]) : (execOp a.eval o).run Try.prog w = .ok (.value (.bool (!eq100 s u))) w := by
 have hg := run_eqGuard_agg (P := Try.prog) (w := w) .neq 100 x y #[.int .i64 s.f0, .int .i64 s.f1, .int .u32 s.f2] #[.int .i64 u.f0, .int .i64 u.f1, .int .u32 u.f2] (by kernel_rfl)
 have hn := neq100 w s u
 simp only [execOp, ho, hx, hy]
 simp [hg, hn, Result.andThen]
def sendB (x : S113) : Bool := decide (x.f1 ∈ [1, 2, 4, 8]) && x.f2 == 0 && x.f3 == 0 && x.f4 == 0 && eq100 x.f5 z100
def recvA (t : S33) (x : S113) : Bool := (x.f0 == 2 || x.f0 == 3) && x.f1 == 0 && decide (0 ≤ x.f2) && decide (x.f2 < t.f8.length) && (t.f8.getD x.f2.toNat z113).f0 == 1 && actB t.f2 x.f5 0 4
def initB (n v : Int) : Bool := decide (v ≤ 4294967295) && (!(decide (1 ≤ n) && decide (n < 8)) || v / 2 ^ (8 * n.toNat) == 0)
def queueB (x : S113) : Bool := if x.f0 = 2 then x.f4 == 0 else x.f3 == 0 && decide (1 ≤ x.f4) && decide (x.f4 ≤ 16)
def msgRow (t : S33) (x : S113) : Bool := if x.f0 = 1 then sendB x else recvA t x && initB (t.f8.getD x.f2.toNat z113).f1 x.f3 && queueB x
def msgsB (t : S33) : Bool := (List.range t.f8.length).all (fun i => msgRow t (t.f8.getD i z113))
theorem At113.act {w : World} {P : Nat} {t : S113} (h : At113 w ⟨P, 0, none⟩ t) : At100 w ⟨P, 5, none⟩ t.f5 := ⟨fun j v hj => by
 have e : (⟨P, 5, none⟩ : Addr).add j = (⟨P, 0, none⟩ : Addr).add (j + 5) := by unfold Addr.add; simp [Nat.add_comm]
 rw [e]
 refine h.cells (j + 5) v ?_
 match j, hj with
 | 0, hj => exact hj
 | 1, hj => exact hj
 | 2, hj => exact hj
 | j + 3, hj => simp at hj⟩
set_option maxRecDepth 1000000 in
set_option maxHeartbeats 4000000 in
theorem msgs_calls (V : TV) (t : S33) (w : World) (h : Tb w V t) :
  Calls Try.prog 27 #[.agg (arr V t)] w fun e w' => e = .returned (.bool (msgsB t)) ∧ Below w.heap.size w w' := by
 have HS := Aside0.mk (At.made h)
 have HB := Aside0.mk (below_a w (.cells (arr V t) 33))
 clear h
 unfold arr at *
 go_enter Try.func27, Try.ntmps27
 go_upto_region 1 with fail
 generalize w.alloc (.cells #[.int .i64 t.f0, .int .i64 t.f1, .slice V.a2 t.f2.length V.k2, .slice V.a3 t.f3.length V.k3, .slice V.a4 t.f4.length V.k4, .slice V.a5 t.f5.length V.k5, .slice V.a6 t.f6.length V.k6, .slice V.a7 t.f7.length V.k7, .slice V.a8 t.f8.length V.k8, .int .i64 t.f9, .int .i64 t.f10, .int .i64 t.f11, .int .i64 t.f12] 33) = w1 at *
 generalize hW : w.heap.size = B at HS ⊢
 have HW := Aside0.mk hW
 clear hW
 have q8 := HS.out.q8
 go_wp2_with fail
 clear q8
 generalize hA : V.a8 = A8
 have HV := Aside0.mk hA
 clear hA
 go_loopg [9] t.f8.length (fun g i wr => ∃ k : Nat, k ≤ t.f8.length ∧ g = t.f8.length - k ∧ i = .int .i64 k ∧ Aside0 (At wr B V t) ∧ Aside0 (Below w.heap.size w wr) ∧ Aside0 (∀ j, j < k → msgRow t (t.f8.getD j z113) = true))
 case atStart => exact ⟨0, by omega, rfl, rfl, HS, HB, ⟨fun j hj => by omega⟩⟩
 case round =>
  clear HS HB
  obtain ⟨k, hk, rfl, rfl, HS, HB, HR⟩ := hrel
  have hbd := HS.out.tb.bd.mg
  by_cases hlt : k < t.f8.length
  ·have hd : decide ((k : Int) < (t.f8.length : Int)) = true := decide_eq_true (by omega)
   obtain ⟨x, ad, hx, e, HA⟩ := msg_at HS.out.tb.mg k hlt
   obtain rfl : A8 = some ad := by rw [← HV.out]; exact e
   have HAX := Aside0.mk HA
   have HN2 := Aside0.mk hx
   have B1 := below_a wr (.cells #[.int .i64 x.f0, .int .i64 x.f1, .int .i64 x.f2, .int .u64 x.f3, .int .i64 x.f4, .int .i64 x.f5.f0, .int .i64 x.f5.f1, .int .u32 x.f5.f2] 113)
   have HX := Aside0.mk (At113.made wr x)
   have HLT := Aside0.mk hlt
   clear hx e HA
   go_upto_region 4 with (first | ((with_reducible refine gate_dst (N := 12) rfl ?_); refine load113 HAX.out rfl (.tmp 11) rfl rfl ?_) | (refine store113 (by rfl) #[.int .i64 x.f0, .int .i64 x.f1, .int .i64 x.f2, .int .u64 x.f3, .int .i64 x.f4, .int .i64 x.f5.f0, .int .i64 x.f5.f1, .int .u32 x.f5.f2] (by rfl) (by simp [Value.oneCell']) (by rfl) (.tmp 4) (.tmp 12) (by rfl) (by rfl) (by rfl) (by rfl) ?_))
   replace HB := Aside0.mk (HB.out.trans (B1.mono HB.out.size))
   replace HS := Aside0.mk (HS.out.below B1)
   clear B1 HAX
   generalize wr.alloc (.cells #[.int .i64 x.f0, .int .i64 x.f1, .int .i64 x.f2, .int .u64 x.f3, .int .i64 x.f4, .int .i64 x.f5.f0, .int .i64 x.f5.f1, .int .u32 x.f5.f2] 113) = w2 at *
   generalize wr.heap.size = P at *
   have x0 := HX.out.g0
   by_cases k1 : x.f0 = 1
   ·have b1 : (x.f0 == 1) = true := by rw [beq_iff_eq]; exact k1
    have HN3 := Aside0.mk (show msgRow t (t.f8.getD k z113) = sendB x from by rw [HN2.out]; unfold msgRow; rw [if_pos k1])
    clear k1
    go_upto_region 5 with fail
    have HE := Aside0.mk (show sendB x = (decide (x.f1 ∈ [1, 2, 4, 8]) && x.f2 == 0 && x.f3 == 0 && x.f4 == 0 && eq100 x.f5 z100) from rfl)
    go_cut [41] (fun s wx => s = .bool (!sendB x) ∧ Aside0 (At wx B V t) ∧ Aside0 (Below w.heap.size w wx))
    case first => as_aux_lemma =>
     have x1 := HX.out.g1
     have hg := heap_alloc_new w2 (.cells #[.int .i64 1, .int .i64 2, .int .i64 4, .int .i64 8] 3)
     have HCC := Aside0.mk (contains_calls (some ⟨w2.heap.size, 0, none⟩) 4 [1, 2, 4, 8] x.f1 _ (nums_of (xs := [1, 2, 4, 8]) hg (by decide)) (by decide))
     have B2 := below_a w2 (.cells #[.int .i64 1, .int .i64 2, .int .i64 4, .int .i64 8] 3)
     clear hg
     have hP := World.block_lt_of_cell? w2 _ x1
     have x1' := (HX.out.below B2).g1
     go_wp2_with fail
     clear hP x1 x1'
     replace HB := Aside0.mk (HB.out.trans (B2.mono HB.out.size))
     replace HS := Aside0.mk (HS.out.below B2)
     replace HX := Aside0.mk (HX.out.below B2)
     clear B2
     generalize w2.alloc (.cells #[.int .i64 1, .int .i64 2, .int .i64 4, .int .i64 8] 3) = w3 at *
     refine HCC.out.mono ?_
     clear HCC
     rintro e wz ⟨rfl, rfl⟩
     have x2 := HX.out.g2
     have x3 := HX.out.g3
     have x4 := HX.out.g4
     have HXA := Aside0.mk HX.out.act
     generalize decide (x.f1 ∈ [1, 2, 4, 8]) = kk at *
     rcases h1 : kk with _ | _
     ·have P1 := Aside0.mk h1
      have b1 := h1
      clear h1
      have HK := Aside0.mk (show sendB x = false from by have h1 := P1.out; rw [HE.out]; simp [eq_self, h1])
      go_wp2_with fail
      go_meet
      exact ⟨by rw [HK.out] <;> rfl, HS, HB⟩
     ·have P1 := Aside0.mk h1
      have b1 := h1
      clear h1
      by_cases h2 : x.f2 = 0
      ·have P2 := Aside0.mk h2
       have b2 : (x.f2 == 0) = true := by rw [beq_iff_eq]; exact h2
       have b2x : (x.f2 != 0) = false := by rw [bne_eq_false_iff_eq]; exact h2
       clear h2
       by_cases h3 : x.f3 = 0
       ·have P3 := Aside0.mk h3
        have b3 : (x.f3 == 0) = true := by rw [beq_iff_eq]; exact h3
        have b3x : (x.f3 != 0) = false := by rw [bne_eq_false_iff_eq]; exact h3
        clear h3
        by_cases h4 : x.f4 = 0
        ·have P4 := Aside0.mk h4
         have b4 : (x.f4 == 0) = true := by rw [beq_iff_eq]; exact h4
         have b4x : (x.f4 != 0) = false := by rw [bne_eq_false_iff_eq]; exact h4
         clear h4
         rcases h5 : eq100 x.f5 z100 with _ | _
         ·have P5 := Aside0.mk h5
          have b5 := h5
          clear h5
          have HK := Aside0.mk (show sendB x = false from by have h1 := P1.out; have h2 := P2.out; have h3 := P3.out; have h4 := P4.out; have h5 := P5.out; rw [HE.out]; simp [eq_self, h1, h2, h3, h4, h5])
          go_wp2_with (first | ((with_reducible refine gate_dst (N := 38) rfl ?_); (refine gate_guard (by rfl) ?_; dsimp only); refine load100 HXA.out rfl (.tmp 37) rfl rfl ?_) | ((with_reducible refine gate_dst (N := 40) rfl ?_); (refine gate_guard (by rfl) ?_; dsimp only); refine Kd.event_run rfl (v := .bool (!eq100 x.f5 z100)) (run_neq100 _ x.f5 z100 (.tmp 38) (.tmp 39) rfl rfl rfl) ?_))
          go_meet
          exact ⟨by rw [HK.out] <;> rfl, HS, HB⟩
         ·have P5 := Aside0.mk h5
          have b5 := h5
          clear h5
          have HK := Aside0.mk (show sendB x = true from by have h1 := P1.out; have h2 := P2.out; have h3 := P3.out; have h4 := P4.out; have h5 := P5.out; rw [HE.out]; simp [eq_self, h1, h2, h3, h4, h5])
          go_wp2_with (first | ((with_reducible refine gate_dst (N := 38) rfl ?_); (refine gate_guard (by rfl) ?_; dsimp only); refine load100 HXA.out rfl (.tmp 37) rfl rfl ?_) | ((with_reducible refine gate_dst (N := 40) rfl ?_); (refine gate_guard (by rfl) ?_; dsimp only); refine Kd.event_run rfl (v := .bool (!eq100 x.f5 z100)) (run_neq100 _ x.f5 z100 (.tmp 38) (.tmp 39) rfl rfl rfl) ?_))
          go_meet
          exact ⟨by rw [HK.out] <;> rfl, HS, HB⟩
        ·have P4 := Aside0.mk h4
         have b4 : (x.f4 == 0) = false := by rw [beq_eq_false_iff_ne]; exact h4
         have b4x : (x.f4 != 0) = true := by rw [bne_iff_ne]; exact h4
         clear h4
         have HK := Aside0.mk (show sendB x = false from by have h1 := P1.out; have h2 := P2.out; have h3 := P3.out; have h4 := P4.out; rw [HE.out]; simp [eq_self, h1, h2, h3, h4])
         go_wp2_with fail
         go_meet
         exact ⟨by rw [HK.out] <;> rfl, HS, HB⟩
       ·have P3 := Aside0.mk h3
        have b3 : (x.f3 == 0) = false := by rw [beq_eq_false_iff_ne]; exact h3
        have b3x : (x.f3 != 0) = true := by rw [bne_iff_ne]; exact h3
        clear h3
        have HK := Aside0.mk (show sendB x = false from by have h1 := P1.out; have h2 := P2.out; have h3 := P3.out; rw [HE.out]; simp [eq_self, h1, h2, h3])
        go_wp2_with fail
        go_meet
        exact ⟨by rw [HK.out] <;> rfl, HS, HB⟩
      ·have P2 := Aside0.mk h2
       have b2 : (x.f2 == 0) = false := by rw [beq_eq_false_iff_ne]; exact h2
       have b2x : (x.f2 != 0) = true := by rw [bne_iff_ne]; exact h2
       clear h2
       have HK := Aside0.mk (show sendB x = false from by have h1 := P1.out; have h2 := P2.out; rw [HE.out]; simp [eq_self, h1, h2])
       go_wp2_with fail
       go_meet
       exact ⟨by rw [HK.out] <;> rfl, HS, HB⟩
    case rest =>
     clear HS HX HB
     obtain ⟨rfl, HS, HB⟩ := hcut
     rcases hrow : sendB x with _ | _
     ·have HK := Aside0.mk (show msgsB t = false from all_no HLT.out (by rw [HN3.out, hrow]))
      clear hrow HR
      go_wp2_with fail
      go_ret
      exact ⟨ret_b HK.out, HB.out⟩
     ·have HT := Aside0.mk (upto_next HR.out (show msgRow t (t.f8.getD k z113) = true from by rw [HN3.out, hrow]))
      clear hrow HR
      go_wp2_with fail
      go_roundg (t.f8.length - (k + 1))
      case measure => have := HLT.out; omega
      case rel => exact ⟨k + 1, HLT.out, rfl, by go_num, HS, HB, HT⟩
   ·have b1 : (x.f0 == 1) = false := by rw [beq_eq_false_iff_ne]; exact k1
    have HN3 := Aside0.mk (show msgRow t (t.f8.getD k z113) = (recvA t x && initB (t.f8.getD x.f2.toNat z113).f1 x.f3 && queueB x) from by rw [HN2.out]; unfold msgRow; rw [if_neg k1])
    clear k1
    go_upto_region 7 with fail
    generalize w2 = wr2 at *
    have HE := Aside0.mk (show recvA t x = ((x.f0 == 2 || x.f0 == 3) && x.f1 == 0 && decide (0 ≤ x.f2) && decide (x.f2 < t.f8.length) && (t.f8.getD x.f2.toNat z113).f0 == 1 && actB t.f2 x.f5 0 4) from rfl)
    go_cut [84] (fun s wx => s = .bool (!recvA t x) ∧ Aside0 (At wx B V t) ∧ Aside0 (At113 wx ⟨P, 0, none⟩ x) ∧ Aside0 (Below w.heap.size w wx))
    case first => as_aux_lemma =>
     have x1 := HX.out.g1
     have x2 := HX.out.g2
     have q8 := HS.out.q8
     have HXA := Aside0.mk HX.out.act
     by_cases h1 : x.f0 = 2
     ·have P1 := Aside0.mk h1
      have b1 : (x.f0 == 2) = true := by rw [beq_iff_eq]; exact h1
      have b1x : (x.f0 != 2) = false := by rw [bne_eq_false_iff_eq]; exact h1
      have b1xx : (x.f0 == 3) = false := by rw [beq_eq_false_iff_ne]; omega
      clear h1
      by_cases h2 : x.f1 = 0
      ·have P2 := Aside0.mk h2
       have b2 : (x.f1 == 0) = true := by rw [beq_iff_eq]; exact h2
       have b2x : (x.f1 != 0) = false := by rw [bne_eq_false_iff_eq]; exact h2
       clear h2
       by_cases h3 : x.f2 < 0
       ·have P3 := Aside0.mk h3
        have b3 : decide (x.f2 < 0) = true := decide_eq_true h3
        clear h3
        have HK := Aside0.mk (show recvA t x = false from by have h1 := P1.out; have h2 := P2.out; have h3 := P3.out; rw [HE.out]; simp [eq_self, h1, h2, h3] <;> omega)
        go_wp2_with fail
        go_meet
        exact ⟨by rw [HK.out] <;> rfl, HS, HX, HB⟩
       ·have P3 := Aside0.mk h3
        have b3 : decide (x.f2 < 0) = false := decide_eq_false h3
        clear h3
        obtain ⟨q, hq⟩ := Int.eq_ofNat_of_zero_le (show 0 ≤ x.f2 by have h1 := P1.out; have h2 := P2.out; have h3 := P3.out; omega)
        rw [hq] at x2 HE
        have HQ := Aside0.mk hq
        clear hq
        by_cases h4 : t.f8.length ≤ q
        ·have P4 := Aside0.mk h4
         have b4 : decide (t.f8.length ≤ q) = true := decide_eq_true h4
         clear h4
         have HK := Aside0.mk (show recvA t x = false from by have h1 := P1.out; have h2 := P2.out; have h3 := P3.out; have h4 := P4.out; rw [HE.out]; simp [eq_self, h1, h2, h3, h4] <;> omega)
         go_wp2_with fail
         go_meet
         exact ⟨by rw [HK.out] <;> rfl, HS, HX, HB⟩
        ·have P4 := Aside0.mk h4
         have b4 : decide (t.f8.length ≤ q) = false := decide_eq_false h4
         clear h4
         have hql : q < t.f8.length := by have h1 := P1.out; have h2 := P2.out; have h3 := P3.out; have h4 := P4.out; omega
         obtain ⟨u, ad2, hu, e, HA⟩ := msg_at HS.out.tb.mg q hql
         rw [e] at q8
         rw [Int.toNat_natCast, hu] at HE
         have u0 := HA.g0
         clear hu e HA
         by_cases h5 : u.f0 = 1
         ·have P5 := Aside0.mk h5
          have b5 : (u.f0 == 1) = true := by rw [beq_iff_eq]; exact h5
          have b5x : (u.f0 != 1) = false := by rw [bne_eq_false_iff_eq]; exact h5
          clear h5
          go_wp2_with (first | ((with_reducible refine gate_dst (N := 79) rfl ?_); (refine gate_guard (by rfl) ?_; dsimp only); refine load33 HS.out rfl (.tmp 1) rfl rfl ?_) | ((with_reducible refine gate_dst (N := 81) rfl ?_); (refine gate_guard (by rfl) ?_; dsimp only); refine load100 HXA.out rfl (.tmp 80) rfl rfl ?_))
          have hx := act_calls V t x.f5 0 4 wr2 HS.out.tb
          unfold arr at hx
          refine hx.mono ?_
          clear hx
          rintro e w3 ⟨rfl, B3⟩
          replace HB := Aside0.mk (HB.out.trans (B3.mono HB.out.size))
          replace HS := Aside0.mk (HS.out.below B3)
          replace HX := Aside0.mk (HX.out.below B3)
          clear B3 HXA
          rcases h6 : actB t.f2 x.f5 0 4 with _ | _
          ·have P6 := Aside0.mk h6
           have b6 := h6
           clear h6
           have HK := Aside0.mk (show recvA t x = false from by have h1 := P1.out; have h2 := P2.out; have h3 := P3.out; have h4 := P4.out; have h5 := P5.out; have h6 := P6.out; rw [HE.out]; simp [eq_self, h1, h2, h3, h4, h5, h6] <;> omega)
           go_wp2_with fail
           go_meet
           exact ⟨by rw [HK.out] <;> rfl, HS, HX, HB⟩
          ·have P6 := Aside0.mk h6
           have b6 := h6
           clear h6
           have HK := Aside0.mk (show recvA t x = true from by have h1 := P1.out; have h2 := P2.out; have h3 := P3.out; have h4 := P4.out; have h5 := P5.out; have h6 := P6.out; rw [HE.out]; simp [eq_self, h1, h2, h3, h4, h5, h6] <;> omega)
           go_wp2_with fail
           go_meet
           exact ⟨by rw [HK.out] <;> rfl, HS, HX, HB⟩
         ·have P5 := Aside0.mk h5
          have b5 : (u.f0 == 1) = false := by rw [beq_eq_false_iff_ne]; exact h5
          have b5x : (u.f0 != 1) = true := by rw [bne_iff_ne]; exact h5
          clear h5
          have HK := Aside0.mk (show recvA t x = false from by have h1 := P1.out; have h2 := P2.out; have h3 := P3.out; have h4 := P4.out; have h5 := P5.out; rw [HE.out]; simp [eq_self, h1, h2, h3, h4, h5] <;> omega)
          go_wp2_with fail
          go_meet
          exact ⟨by rw [HK.out] <;> rfl, HS, HX, HB⟩
      ·have P2 := Aside0.mk h2
       have b2 : (x.f1 == 0) = false := by rw [beq_eq_false_iff_ne]; exact h2
       have b2x : (x.f1 != 0) = true := by rw [bne_iff_ne]; exact h2
       clear h2
       have HK := Aside0.mk (show recvA t x = false from by have h1 := P1.out; have h2 := P2.out; rw [HE.out]; simp [eq_self, h1, h2] <;> omega)
       go_wp2_with fail
       go_meet
       exact ⟨by rw [HK.out] <;> rfl, HS, HX, HB⟩
     ·have P1 := Aside0.mk h1
      have b1 : (x.f0 == 2) = false := by rw [beq_eq_false_iff_ne]; exact h1
      have b1x : (x.f0 != 2) = true := by rw [bne_iff_ne]; exact h1
      clear h1
      by_cases h7 : x.f0 = 3
      ·have P7 := Aside0.mk h7
       have b7 : (x.f0 == 3) = true := by rw [beq_iff_eq]; exact h7
       have b7x : (x.f0 != 3) = false := by rw [bne_eq_false_iff_eq]; exact h7
       clear h7
       by_cases h8 : x.f1 = 0
       ·have P8 := Aside0.mk h8
        have b8 : (x.f1 == 0) = true := by rw [beq_iff_eq]; exact h8
        have b8x : (x.f1 != 0) = false := by rw [bne_eq_false_iff_eq]; exact h8
        clear h8
        by_cases h9 : x.f2 < 0
        ·have P9 := Aside0.mk h9
         have b9 : decide (x.f2 < 0) = true := decide_eq_true h9
         clear h9
         have HK := Aside0.mk (show recvA t x = false from by have h1 := P1.out; have h7 := P7.out; have h8 := P8.out; have h9 := P9.out; rw [HE.out]; simp [eq_self, h1, h7, h8, h9] <;> omega)
         go_wp2_with fail
         go_meet
         exact ⟨by rw [HK.out] <;> rfl, HS, HX, HB⟩
        ·have P9 := Aside0.mk h9
         have b9 : decide (x.f2 < 0) = false := decide_eq_false h9
         clear h9
         obtain ⟨q, hq⟩ := Int.eq_ofNat_of_zero_le (show 0 ≤ x.f2 by have h1 := P1.out; have h7 := P7.out; have h8 := P8.out; have h9 := P9.out; omega)
         rw [hq] at x2 HE
         have HQ := Aside0.mk hq
         clear hq
         by_cases h10 : t.f8.length ≤ q
         ·have P10 := Aside0.mk h10
          have b10 : decide (t.f8.length ≤ q) = true := decide_eq_true h10
          clear h10
          have HK := Aside0.mk (show recvA t x = false from by have h1 := P1.out; have h7 := P7.out; have h8 := P8.out; have h9 := P9.out; have h10 := P10.out; rw [HE.out]; simp [eq_self, h1, h7, h8, h9, h10] <;> omega)
          go_wp2_with fail
          go_meet
          exact ⟨by rw [HK.out] <;> rfl, HS, HX, HB⟩
         ·have P10 := Aside0.mk h10
          have b10 : decide (t.f8.length ≤ q) = false := decide_eq_false h10
          clear h10
          have hql : q < t.f8.length := by have h1 := P1.out; have h7 := P7.out; have h8 := P8.out; have h9 := P9.out; have h10 := P10.out; omega
          obtain ⟨u, ad2, hu, e, HA⟩ := msg_at HS.out.tb.mg q hql
          rw [e] at q8
          rw [Int.toNat_natCast, hu] at HE
          have u0 := HA.g0
          clear hu e HA
          by_cases h11 : u.f0 = 1
          ·have P11 := Aside0.mk h11
           have b11 : (u.f0 == 1) = true := by rw [beq_iff_eq]; exact h11
           have b11x : (u.f0 != 1) = false := by rw [bne_eq_false_iff_eq]; exact h11
           clear h11
           go_wp2_with (first | ((with_reducible refine gate_dst (N := 79) rfl ?_); (refine gate_guard (by rfl) ?_; dsimp only); refine load33 HS.out rfl (.tmp 1) rfl rfl ?_) | ((with_reducible refine gate_dst (N := 81) rfl ?_); (refine gate_guard (by rfl) ?_; dsimp only); refine load100 HXA.out rfl (.tmp 80) rfl rfl ?_))
           have hx := act_calls V t x.f5 0 4 wr2 HS.out.tb
           unfold arr at hx
           refine hx.mono ?_
           clear hx
           rintro e w3 ⟨rfl, B3⟩
           replace HB := Aside0.mk (HB.out.trans (B3.mono HB.out.size))
           replace HS := Aside0.mk (HS.out.below B3)
           replace HX := Aside0.mk (HX.out.below B3)
           clear B3 HXA
           rcases h12 : actB t.f2 x.f5 0 4 with _ | _
           ·have P12 := Aside0.mk h12
            have b12 := h12
            clear h12
            have HK := Aside0.mk (show recvA t x = false from by have h1 := P1.out; have h7 := P7.out; have h8 := P8.out; have h9 := P9.out; have h10 := P10.out; have h11 := P11.out; have h12 := P12.out; rw [HE.out]; simp [eq_self, h1, h7, h8, h9, h10, h11, h12] <;> omega)
            go_wp2_with fail
            go_meet
            exact ⟨by rw [HK.out] <;> rfl, HS, HX, HB⟩
           ·have P12 := Aside0.mk h12
            have b12 := h12
            clear h12
            have HK := Aside0.mk (show recvA t x = true from by have h1 := P1.out; have h7 := P7.out; have h8 := P8.out; have h9 := P9.out; have h10 := P10.out; have h11 := P11.out; have h12 := P12.out; rw [HE.out]; simp [eq_self, h1, h7, h8, h9, h10, h11, h12] <;> omega)
            go_wp2_with fail
            go_meet
            exact ⟨by rw [HK.out] <;> rfl, HS, HX, HB⟩
          ·have P11 := Aside0.mk h11
           have b11 : (u.f0 == 1) = false := by rw [beq_eq_false_iff_ne]; exact h11
           have b11x : (u.f0 != 1) = true := by rw [bne_iff_ne]; exact h11
           clear h11
           have HK := Aside0.mk (show recvA t x = false from by have h1 := P1.out; have h7 := P7.out; have h8 := P8.out; have h9 := P9.out; have h10 := P10.out; have h11 := P11.out; rw [HE.out]; simp [eq_self, h1, h7, h8, h9, h10, h11] <;> omega)
           go_wp2_with fail
           go_meet
           exact ⟨by rw [HK.out] <;> rfl, HS, HX, HB⟩
       ·have P8 := Aside0.mk h8
        have b8 : (x.f1 == 0) = false := by rw [beq_eq_false_iff_ne]; exact h8
        have b8x : (x.f1 != 0) = true := by rw [bne_iff_ne]; exact h8
        clear h8
        have HK := Aside0.mk (show recvA t x = false from by have h1 := P1.out; have h7 := P7.out; have h8 := P8.out; rw [HE.out]; simp [eq_self, h1, h7, h8] <;> omega)
        go_wp2_with fail
        go_meet
        exact ⟨by rw [HK.out] <;> rfl, HS, HX, HB⟩
      ·have P7 := Aside0.mk h7
       have b7 : (x.f0 == 3) = false := by rw [beq_eq_false_iff_ne]; exact h7
       have b7x : (x.f0 != 3) = true := by rw [bne_iff_ne]; exact h7
       clear h7
       have HK := Aside0.mk (show recvA t x = false from by have h1 := P1.out; have h7 := P7.out; rw [HE.out]; simp [eq_self, h1, h7] <;> omega)
       go_wp2_with fail
       go_meet
       exact ⟨by rw [HK.out] <;> rfl, HS, HX, HB⟩
    case rest =>
     clear HS HX HB x0 b1
     obtain ⟨rfl, HS, HX, HB⟩ := hcut
     rcases hrow : recvA t x with _ | _
     ·have HK := Aside0.mk (show msgsB t = false from all_no HLT.out (by rw [HN3.out, hrow]; rfl))
      clear hrow HR HE
      go_wp2_with fail
      go_ret
      exact ⟨ret_b HK.out, HB.out⟩
     ·have HROW := Aside0.mk hrow
      rw [HE.out] at hrow
      simp only [Bool.and_eq_true, Bool.or_eq_true, decide_eq_true_eq, beq_iff_eq] at hrow
      obtain ⟨q, hq⟩ := Int.eq_ofNat_of_zero_le hrow.1.1.1.2
      have hq2 : q < t.f8.length := by have := hrow.1.1.2; omega
      have H23 := Aside0.mk (show x.f0 = 2 ∨ x.f0 = 3 from hrow.1.1.1.1.1)
      obtain ⟨u, ad2, hu, e, HA⟩ := msg_at HS.out.tb.mg q hq2
      have HUN := Aside0.mk (show t.f8.getD x.f2.toNat z113 = u from by rw [hq, Int.toNat_natCast]; exact hu)
      have x2 := HX.out.g2
      rw [hq] at x2
      have q8 := HS.out.q8
      rw [e] at q8
      have u1 := HA.g1
      clear hrow hq hu e HA HE
      go_upto_region 10 with fail
      clear x2 q8 u1 hq2
      obtain ⟨n, hn⟩ : ∃ n, u.f1 = n := ⟨_, rfl⟩
      have HUN1 := Aside0.mk hn
      rw [hn]
      clear hn
      have x3 := HX.out.g3
      have HINIT := Aside0.mk (show initB (t.f8.getD x.f2.toNat z113).f1 x.f3 = initB n x.f3 from by rw [HUN.out, HUN1.out])
      go_cut [5, 110] (fun s5 s wx => s = .bool (!initB n x.f3) ∧ wx = wc)
      case first => as_aux_lemma =>
       clear HUN1 HINIT
       by_cases h1 : 4294967295 < x.f3
       ·have P1 := Aside0.mk h1
        have b1 : decide (4294967295 < x.f3) = true := decide_eq_true h1
        clear h1
        have HK := Aside0.mk (show initB n x.f3 = false from by have h1 := P1.out; unfold initB; simp [eq_self, h1] <;> omega)
        go_wp2_with fail
        go_meet
        exact ⟨by rw [HK.out] <;> rfl, rfl⟩
       ·have P1 := Aside0.mk h1
        have b1 : decide (4294967295 < x.f3) = false := decide_eq_false h1
        clear h1
        by_cases h2 : 1 ≤ n
        ·have P2 := Aside0.mk h2
         have b2 : decide (1 ≤ n) = true := decide_eq_true h2
         clear h2
         by_cases h3 : n < 8
         ·have P3 := Aside0.mk h3
          have b3 : decide (n < 8) = true := decide_eq_true h3
          clear h3
          obtain ⟨m, rfl⟩ : ∃ m : Nat, n = m := ⟨n.toNat, by have h1 := P1.out; have h2 := P2.out; have h3 := P3.out; omega⟩
          have hml : m < 8 := by have h1 := P1.out; have h2 := P2.out; have h3 := P3.out; omega
          have hw : IntKind.i64.wrap (8 * (m : Int)) = 8 * (m : Int) := IntWalk.i64_in _ (by omega)
          have dm8 : decide (m < 8) = true := decide_eq_true hml
          have dm1 : decide (1 ≤ m) = true := decide_eq_true (by have h1 := P1.out; have h2 := P2.out; have h3 := P3.out; omega)
          by_cases h4 : x.f3 / 2 ^ (8 * m) = 0
          ·have P4 := Aside0.mk h4
           have b4 : (x.f3 / 2 ^ (8 * m) == 0) = true := by rw [beq_iff_eq]; exact h4
           have b4x : (x.f3 / 2 ^ (8 * m) != 0) = false := by rw [bne_eq_false_iff_eq]; exact h4
           clear h4
           have HK := Aside0.mk (show initB (m : Int) x.f3 = true from by have h1 := P1.out; have h2 := P2.out; have h3 := P3.out; have h4 := P4.out; unfold initB; rw [Int.toNat_natCast]; simp [eq_self, h1, h2, h3, h4] <;> omega)
           go_wp2_with fail
           go_meet
           exact ⟨by rw [HK.out] <;> rfl, rfl⟩
          ·have P4 := Aside0.mk h4
           have b4 : (x.f3 / 2 ^ (8 * m) == 0) = false := by rw [beq_eq_false_iff_ne]; exact h4
           have b4x : (x.f3 / 2 ^ (8 * m) != 0) = true := by rw [bne_iff_ne]; exact h4
           clear h4
           have HK := Aside0.mk (show initB (m : Int) x.f3 = false from by have h1 := P1.out; have h2 := P2.out; have h3 := P3.out; have h4 := P4.out; unfold initB; rw [Int.toNat_natCast]; simp [eq_self, h1, h2, h3, h4] <;> omega)
           go_wp2_with fail
           go_meet
           exact ⟨by rw [HK.out] <;> rfl, rfl⟩
         ·have P3 := Aside0.mk h3
          have b3 : decide (n < 8) = false := decide_eq_false h3
          clear h3
          have HK := Aside0.mk (show initB n x.f3 = true from by have h1 := P1.out; have h2 := P2.out; have h3 := P3.out; unfold initB; simp [eq_self, h1, h2, h3] <;> omega)
          go_wp2_with fail
          go_meet
          exact ⟨by rw [HK.out] <;> rfl, rfl⟩
        ·have P2 := Aside0.mk h2
         have b2 : decide (1 ≤ n) = false := decide_eq_false h2
         clear h2
         have HK := Aside0.mk (show initB n x.f3 = true from by have h1 := P1.out; have h2 := P2.out; unfold initB; simp [eq_self, h1, h2] <;> omega)
         go_wp2_with fail
         go_meet
         exact ⟨by rw [HK.out] <;> rfl, rfl⟩
      case rest =>
       obtain ⟨rfl, rfl⟩ := hcut
       rcases hrow : initB n x.f3 with _ | _
       ·have HK := Aside0.mk (show msgsB t = false from all_no HLT.out (by rw [HN3.out, HINIT.out, hrow, HROW.out]; rfl))
        clear hrow HR
        go_wp2_with fail
        go_ret
        exact ⟨ret_b HK.out, HB.out⟩
       ·have HROW2 := Aside0.mk hrow
        clear hrow
        go_upto_region 12 with fail
        have x0 := HX.out.g0
        have x4 := HX.out.g4
        go_cut [138] (fun s wx => s = .bool (!queueB x) ∧ wx = wc)
        case first => as_aux_lemma =>
         by_cases h1 : x.f0 = 2
         ·have P1 := Aside0.mk h1
          have b1 : (x.f0 == 2) = true := by rw [beq_iff_eq]; exact h1
          have b1x : (x.f0 != 2) = false := by rw [bne_eq_false_iff_eq]; exact h1
          have b1xx : (x.f0 == 3) = false := by rw [beq_eq_false_iff_ne]; omega
          clear h1
          by_cases h2 : x.f4 = 0
          ·have P2 := Aside0.mk h2
           have b2 : (x.f4 == 0) = true := by rw [beq_iff_eq]; exact h2
           have b2x : (x.f4 != 0) = false := by rw [bne_eq_false_iff_eq]; exact h2
           clear h2
           have HK := Aside0.mk (show queueB x = true from by have h1 := P1.out; have h2 := P2.out; unfold queueB; simp [eq_self, h1, h2] <;> omega)
           go_wp2_with fail
           go_meet
           exact ⟨by rw [HK.out] <;> rfl, rfl⟩
          ·have P2 := Aside0.mk h2
           have b2 : (x.f4 == 0) = false := by rw [beq_eq_false_iff_ne]; exact h2
           have b2x : (x.f4 != 0) = true := by rw [bne_iff_ne]; exact h2
           clear h2
           have HK := Aside0.mk (show queueB x = false from by have h1 := P1.out; have h2 := P2.out; unfold queueB; simp [eq_self, h1, h2] <;> omega)
           go_wp2_with fail
           go_meet
           exact ⟨by rw [HK.out] <;> rfl, rfl⟩
         ·have P1 := Aside0.mk h1
          have b1 : (x.f0 == 2) = false := by rw [beq_eq_false_iff_ne]; exact h1
          have b1x : (x.f0 != 2) = true := by rw [bne_iff_ne]; exact h1
          clear h1
          have b3 : (x.f0 == 3) = true := by have h1 := P1.out; rw [beq_iff_eq]; have := H23.out; omega
          by_cases h3 : x.f3 = 0
          ·have P3 := Aside0.mk h3
           have b3 : (x.f3 == 0) = true := by rw [beq_iff_eq]; exact h3
           have b3x : (x.f3 != 0) = false := by rw [bne_eq_false_iff_eq]; exact h3
           clear h3
           by_cases h4 : x.f4 < 1
           ·have P4 := Aside0.mk h4
            have b4 : decide (x.f4 < 1) = true := decide_eq_true h4
            clear h4
            have HK := Aside0.mk (show queueB x = false from by have h1 := P1.out; have h3 := P3.out; have h4 := P4.out; unfold queueB; simp [eq_self, h1, h3, h4] <;> omega)
            go_wp2_with fail
            go_meet
            exact ⟨by rw [HK.out] <;> rfl, rfl⟩
           ·have P4 := Aside0.mk h4
            have b4 : decide (x.f4 < 1) = false := decide_eq_false h4
            clear h4
            by_cases h5 : 16 < x.f4
            ·have P5 := Aside0.mk h5
             have b5 : decide (16 < x.f4) = true := decide_eq_true h5
             clear h5
             have HK := Aside0.mk (show queueB x = false from by have h1 := P1.out; have h3 := P3.out; have h4 := P4.out; have h5 := P5.out; unfold queueB; simp [eq_self, h1, h3, h4, h5] <;> omega)
             go_wp2_with fail
             go_meet
             exact ⟨by rw [HK.out] <;> rfl, rfl⟩
            ·have P5 := Aside0.mk h5
             have b5 : decide (16 < x.f4) = false := decide_eq_false h5
             clear h5
             have HK := Aside0.mk (show queueB x = true from by have h1 := P1.out; have h3 := P3.out; have h4 := P4.out; have h5 := P5.out; unfold queueB; simp [eq_self, h1, h3, h4, h5] <;> omega)
             go_wp2_with fail
             go_meet
             exact ⟨by rw [HK.out] <;> rfl, rfl⟩
          ·have P3 := Aside0.mk h3
           have b3 : (x.f3 == 0) = false := by rw [beq_eq_false_iff_ne]; exact h3
           have b3x : (x.f3 != 0) = true := by rw [bne_iff_ne]; exact h3
           clear h3
           have HK := Aside0.mk (show queueB x = false from by have h1 := P1.out; have h3 := P3.out; unfold queueB; simp [eq_self, h1, h3] <;> omega)
           go_wp2_with fail
           go_meet
           exact ⟨by rw [HK.out] <;> rfl, rfl⟩
        case rest =>
         obtain ⟨rfl, rfl⟩ := hcut
         rcases hrow : queueB x with _ | _
         ·have HK := Aside0.mk (show msgsB t = false from all_no HLT.out (by rw [HN3.out, hrow, Bool.and_false]))
          clear hrow HR
          go_wp2_with fail
          go_ret
          exact ⟨ret_b HK.out, HB.out⟩
         ·have HT := Aside0.mk (upto_next HR.out (show msgRow t (t.f8.getD k z113) = true from by rw [HN3.out, HROW.out, HINIT.out, HROW2.out, hrow]; rfl))
          clear hrow HR
          go_wp2_with fail
          go_roundg (t.f8.length - (k + 1))
          case measure => have := HLT.out; omega
          case rel => exact ⟨k + 1, HLT.out, rfl, by go_num, HS, HB, HT⟩
  ·have hd : decide ((k : Int) < (t.f8.length : Int)) = false := decide_eq_false (by omega)
   have HT := Aside0.mk (show msgsB t = true from all_yes (fun i hi => HR.out i (by omega)))
   clear HR
   go_wp2_with fail
   go_ret
   exact ⟨ret_b HT.out, HB.out⟩
end Go.Proofs.Ytbgcemijihpakaa.XA
