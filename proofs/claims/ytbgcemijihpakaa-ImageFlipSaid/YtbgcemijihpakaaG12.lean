/- package table's tasks. -/
import Derived.Test.YtbgcemijihpakaaG11
namespace Go.Proofs.Ytbgcemijihpakaa.XA
set_option linter.unusedVariables false
set_option linter.unusedSimpArgs false
open Go.RowKit Go.WideMaps Go.Maps Go.Proofs.YtbgcemijihpakaaW.PrintWords Go.Proofs.YtbgcemijihpakaaW.PrintLast Go.Proofs.YtbgcemijihpakaaW.PrintMore
def taskA (t : S33) (x : S69) : Bool := decide (0 ≤ x.f1) && decide (x.f1 < t.f3.length) && (t.f3.getD x.f1.toNat z88).f0 == x.f0 && decide (1 ≤ x.f3) && decide (x.f3 ≤ 255) && (x.f4 == 0 || x.f3 == 1)
def taskB (t : S33) (x : S69) : Bool := (x.f5 == -1 || decide (x.f0 ≤ x.f5) && decide (x.f5 ≤ 127)) && ownB t.f4 x.f6 x.f0 && x.f7 / 2 ^ min t.f1.toNat 32 == 0
def taskAt (t : S33) (i : Nat) : Bool := taskA t (t.f2.getD i z69) && taskB t (t.f2.getD i z69)
def tasksB (t : S33) : Bool := (List.range t.f2.length).all (taskAt t) && eqL eq88 (ringsOf t.f2) t.f3
theorem mem_getD {α : Type} {xs : List α} {x d : α} (h : x ∈ xs) : ∃ i, i < xs.length ∧ xs.getD i d = x := by
 obtain ⟨i, hi, e⟩ := List.getElem_of_mem h
 exact ⟨i, hi, by rw [List.getD_eq_getElem?_getD, List.getElem?_eq_getElem hi]; exact e⟩
theorem task_lim {t : S33} (h : (List.range t.f2.length).all (taskAt t) = true) : ∀ x ∈ t.f2, 0 ≤ x.f3 ∧ x.f3 ≤ 255 := by
 intro x hx
 obtain ⟨i, hi, rfl⟩ := mem_getD (d := z69) hx
 rw [List.all_eq_true] at h
 have := h i (List.mem_range.mpr hi)
 unfold taskAt taskA at this
 simp only [Bool.and_eq_true, decide_eq_true_eq] at this
 omega
set_option maxRecDepth 1000000 in
set_option maxHeartbeats 4000000 in
theorem tasks_calls (V : TV) (t : S33) (w : World) (h : Tb w V t) (hn : t.f2.length ≤ 256) (h1 : 0 ≤ t.f1) :
  Calls Try.prog 24 #[.agg (arr V t)] w fun e w' => e = .returned (.bool (tasksB t)) ∧ Below w.heap.size w w' := by
 have HS := Aside0.mk (At.made h)
 have HB := Aside0.mk (below_a w (.cells (arr V t) 33))
 have HN := Aside0.mk hn
 obtain ⟨m, hm⟩ := Int.eq_ofNat_of_zero_le h1
 have HM := Aside0.mk hm
 clear h hm h1 hn
 unfold arr at *
 go_enter Try.func24, Try.ntmps24
 go_upto_region 1 with fail
 generalize w.alloc (.cells #[.int .i64 t.f0, .int .i64 t.f1, .slice V.a2 t.f2.length V.k2, .slice V.a3 t.f3.length V.k3, .slice V.a4 t.f4.length V.k4, .slice V.a5 t.f5.length V.k5, .slice V.a6 t.f6.length V.k6, .slice V.a7 t.f7.length V.k7, .slice V.a8 t.f8.length V.k8, .int .i64 t.f9, .int .i64 t.f10, .int .i64 t.f11, .int .i64 t.f12] 33) = w1 at *
 generalize hW : w.heap.size = B at HS ⊢
 have HW := Aside0.mk hW
 clear hW
 have q2 := HS.out.q2
 go_wp2_with fail
 clear q2
 generalize hA : V.a2 = A2
 have HV := Aside0.mk hA
 clear hA
 go_loopg [8] t.f2.length (fun g i wr => ∃ k : Nat, k ≤ t.f2.length ∧ g = t.f2.length - k ∧ i = .int .i64 k ∧ Aside0 (At wr B V t) ∧ Aside0 (Below w.heap.size w wr) ∧ Aside0 (∀ j, j < k → taskAt t j = true))
 case atStart => exact ⟨0, by omega, rfl, rfl, HS, HB, ⟨fun j hj => by omega⟩⟩
 case round =>
  clear HS HB
  obtain ⟨k, hk, rfl, rfl, HS, HB, HR⟩ := hrel
  have hbd2 := HN.out
  by_cases hlt : k < t.f2.length
  ·have hd : decide ((k : Int) < (t.f2.length : Int)) = true := decide_eq_true (by omega)
   obtain ⟨x, ad, A6, c6, hx, e, HA, l6, g6⟩ := task_at HS.out.tb.tk k hlt
   obtain rfl : A2 = some ad := by rw [← HV.out]; exact e
   have HAX := Aside0.mk HA
   have HN2 := Aside0.mk hx
   have B1 := below_a wr (.cells #[.int .i64 x.f0, .int .i64 x.f1, .bool x.f2, .int .i64 x.f3, .int .u32 x.f4, .int .i64 x.f5, .slice A6 x.f6.length c6, .int .u32 x.f7] 69)
   have HX := Aside0.mk (At69.made wr x A6 c6)
   have HG := Aside0.mk (Kd.C_below g6 B1)
   have HL6 := Aside0.mk l6
   have HLT := Aside0.mk hlt
   clear hx e HA l6 g6
   go_upto_region 4 with (first | ((with_reducible refine gate_dst (N := 11) rfl ?_); refine load69 HAX.out rfl (.tmp 10) rfl rfl ?_) | (refine store69 (by rfl) #[.int .i64 x.f0, .int .i64 x.f1, .bool x.f2, .int .i64 x.f3, .int .u32 x.f4, .int .i64 x.f5, .slice A6 x.f6.length c6, .int .u32 x.f7] (by rfl) (by simp [Value.oneCell']) (by rfl) (.tmp 4) (.tmp 11) (by rfl) (by rfl) (by rfl) (by rfl) ?_))
   replace HB := Aside0.mk (HB.out.trans (B1.mono HB.out.size))
   replace HS := Aside0.mk (HS.out.below B1)
   clear B1 HAX
   generalize wr.alloc (.cells #[.int .i64 x.f0, .int .i64 x.f1, .bool x.f2, .int .i64 x.f3, .int .u32 x.f4, .int .i64 x.f5, .slice A6 x.f6.length c6, .int .u32 x.f7] 69) = w2 at *
   generalize wr.heap.size = P at *
   have HE := Aside0.mk (show taskA t x = (decide (0 ≤ x.f1) && decide (x.f1 < t.f3.length) && (t.f3.getD x.f1.toNat z88).f0 == x.f0 && decide (1 ≤ x.f3) && decide (x.f3 ≤ 255) && (x.f4 == 0 || x.f3 == 1)) from rfl)
   go_cut [54] (fun s wx => s = .bool (!taskA t x) ∧ Aside0 (At wx B V t) ∧ Aside0 (At69 wx ⟨P, 0, none⟩ x A6 c6) ∧ Aside0 (Below w.heap.size w wx) ∧ Aside0 ((Kd.int .i64).C wx A6 x.f6.length x.f6))
   case first =>
    have x0 := HX.out.g0
    have x1 := HX.out.g1
    have x3 := HX.out.g3
    have x4 := HX.out.g4
    have q3 := HS.out.q3
    by_cases h1 : x.f1 < 0
    ·have P1 := Aside0.mk h1
     have b1 : decide (x.f1 < 0) = true := decide_eq_true h1
     clear h1
     have HK := Aside0.mk (show taskA t x = false from by have h1 := P1.out; rw [HE.out]; simp [eq_self, h1] <;> omega)
     go_quiet (fail)
     go_wp2_with fail
     go_meet
     exact ⟨by rw [HK.out] <;> rfl, ⟨HS.out.below (drewN_below _ _)⟩, ⟨HX.out.below (drewN_below _ _)⟩, ⟨HB.out.trans ((drewN_below _ _).mono HB.out.size)⟩, ⟨Kd.C_below HG.out (drewN_below _ _)⟩⟩
    ·have P1 := Aside0.mk h1
     have b1 : decide (x.f1 < 0) = false := decide_eq_false h1
     clear h1
     obtain ⟨q, hq⟩ := Int.eq_ofNat_of_zero_le (show 0 ≤ x.f1 by have h1 := P1.out; omega)
     rw [hq] at x1 HE
     have HQ := Aside0.mk hq
     have bq : decide ((q : Int) < 0) = false := decide_eq_false (by omega)
     clear hq
     by_cases h2 : t.f3.length ≤ q
     ·have P2 := Aside0.mk h2
      have b2 : decide (t.f3.length ≤ q) = true := decide_eq_true h2
      have b2x : decide ((t.f3.length : Int) ≤ (q : Int)) = true := decide_eq_true (by omega)
      clear h2
      have HK := Aside0.mk (show taskA t x = false from by have h1 := P1.out; have h2 := P2.out; rw [HE.out]; simp [eq_self, h1, h2] <;> omega)
      go_quiet (fail)
      go_wp2_with fail
      go_meet
      exact ⟨by rw [HK.out] <;> rfl, ⟨HS.out.below (drewN_below _ _)⟩, ⟨HX.out.below (drewN_below _ _)⟩, ⟨HB.out.trans ((drewN_below _ _).mono HB.out.size)⟩, ⟨Kd.C_below HG.out (drewN_below _ _)⟩⟩
     ·have P2 := Aside0.mk h2
      have b2 : decide (t.f3.length ≤ q) = false := decide_eq_false h2
      have b2x : decide ((t.f3.length : Int) ≤ (q : Int)) = false := decide_eq_false (by omega)
      clear h2
      have hql : q < t.f3.length := by have h1 := P1.out; have h2 := P2.out; omega
      obtain ⟨u, ad2, hu, e, HA⟩ := ring_at HS.out.tb.rg q hql
      rw [e] at q3
      rw [Int.toNat_natCast, hu] at HE
      have u0 := HA.g0
      clear hu e HA
      by_cases h3 : u.f0 = x.f0
      ·have P3 := Aside0.mk h3
       have b3 : (u.f0 == x.f0) = true := by rw [beq_iff_eq]; exact h3
       have b3x : (u.f0 != x.f0) = false := by rw [bne_eq_false_iff_eq]; exact h3
       clear h3
       by_cases h4 : x.f3 < 1
       ·have P4 := Aside0.mk h4
        have b4 : decide (x.f3 < 1) = true := decide_eq_true h4
        clear h4
        have HK := Aside0.mk (show taskA t x = false from by have h1 := P1.out; have h2 := P2.out; have h3 := P3.out; have h4 := P4.out; rw [HE.out]; simp [eq_self, h1, h2, h3, h4] <;> omega)
        go_quiet (fail)
        go_wp2_with fail
        go_meet
        exact ⟨by rw [HK.out] <;> rfl, ⟨HS.out.below (drewN_below _ _)⟩, ⟨HX.out.below (drewN_below _ _)⟩, ⟨HB.out.trans ((drewN_below _ _).mono HB.out.size)⟩, ⟨Kd.C_below HG.out (drewN_below _ _)⟩⟩
       ·have P4 := Aside0.mk h4
        have b4 : decide (x.f3 < 1) = false := decide_eq_false h4
        clear h4
        by_cases h5 : 255 < x.f3
        ·have P5 := Aside0.mk h5
         have b5 : decide (255 < x.f3) = true := decide_eq_true h5
         clear h5
         have HK := Aside0.mk (show taskA t x = false from by have h1 := P1.out; have h2 := P2.out; have h3 := P3.out; have h4 := P4.out; have h5 := P5.out; rw [HE.out]; simp [eq_self, h1, h2, h3, h4, h5] <;> omega)
         go_quiet (fail)
         go_wp2_with fail
         go_meet
         exact ⟨by rw [HK.out] <;> rfl, ⟨HS.out.below (drewN_below _ _)⟩, ⟨HX.out.below (drewN_below _ _)⟩, ⟨HB.out.trans ((drewN_below _ _).mono HB.out.size)⟩, ⟨Kd.C_below HG.out (drewN_below _ _)⟩⟩
        ·have P5 := Aside0.mk h5
         have b5 : decide (255 < x.f3) = false := decide_eq_false h5
         clear h5
         by_cases h6 : x.f4 = 0
         ·have P6 := Aside0.mk h6
          have b6 : (x.f4 == 0) = true := by rw [beq_iff_eq]; exact h6
          have b6x : (x.f4 != 0) = false := by rw [bne_eq_false_iff_eq]; exact h6
          clear h6
          have HK := Aside0.mk (show taskA t x = true from by have h1 := P1.out; have h2 := P2.out; have h3 := P3.out; have h4 := P4.out; have h5 := P5.out; have h6 := P6.out; rw [HE.out]; simp [eq_self, h1, h2, h3, h4, h5, h6] <;> omega)
          go_quiet (fail)
          go_wp2_with fail
          go_meet
          exact ⟨by rw [HK.out] <;> rfl, ⟨HS.out.below (drewN_below _ _)⟩, ⟨HX.out.below (drewN_below _ _)⟩, ⟨HB.out.trans ((drewN_below _ _).mono HB.out.size)⟩, ⟨Kd.C_below HG.out (drewN_below _ _)⟩⟩
         ·have P6 := Aside0.mk h6
          have b6 : (x.f4 == 0) = false := by rw [beq_eq_false_iff_ne]; exact h6
          have b6x : (x.f4 != 0) = true := by rw [bne_iff_ne]; exact h6
          clear h6
          by_cases h7 : x.f3 = 1
          ·have P7 := Aside0.mk h7
           have b7 : (x.f3 == 1) = true := by rw [beq_iff_eq]; exact h7
           have b7x : (x.f3 != 1) = false := by rw [bne_eq_false_iff_eq]; exact h7
           clear h7
           have HK := Aside0.mk (show taskA t x = true from by have h1 := P1.out; have h2 := P2.out; have h3 := P3.out; have h4 := P4.out; have h5 := P5.out; have h6 := P6.out; have h7 := P7.out; rw [HE.out]; simp [eq_self, h1, h2, h3, h4, h5, h6, h7] <;> omega)
           go_quiet (fail)
           go_wp2_with fail
           go_meet
           exact ⟨by rw [HK.out] <;> rfl, ⟨HS.out.below (drewN_below _ _)⟩, ⟨HX.out.below (drewN_below _ _)⟩, ⟨HB.out.trans ((drewN_below _ _).mono HB.out.size)⟩, ⟨Kd.C_below HG.out (drewN_below _ _)⟩⟩
          ·have P7 := Aside0.mk h7
           have b7 : (x.f3 == 1) = false := by rw [beq_eq_false_iff_ne]; exact h7
           have b7x : (x.f3 != 1) = true := by rw [bne_iff_ne]; exact h7
           clear h7
           have HK := Aside0.mk (show taskA t x = false from by have h1 := P1.out; have h2 := P2.out; have h3 := P3.out; have h4 := P4.out; have h5 := P5.out; have h6 := P6.out; have h7 := P7.out; rw [HE.out]; simp [eq_self, h1, h2, h3, h4, h5, h6, h7] <;> omega)
           go_quiet (fail)
           go_wp2_with fail
           go_meet
           exact ⟨by rw [HK.out] <;> rfl, ⟨HS.out.below (drewN_below _ _)⟩, ⟨HX.out.below (drewN_below _ _)⟩, ⟨HB.out.trans ((drewN_below _ _).mono HB.out.size)⟩, ⟨Kd.C_below HG.out (drewN_below _ _)⟩⟩
      ·have P3 := Aside0.mk h3
       have b3 : (u.f0 == x.f0) = false := by rw [beq_eq_false_iff_ne]; exact h3
       have b3x : (u.f0 != x.f0) = true := by rw [bne_iff_ne]; exact h3
       clear h3
       have HK := Aside0.mk (show taskA t x = false from by have h1 := P1.out; have h2 := P2.out; have h3 := P3.out; rw [HE.out]; simp [eq_self, h1, h2, h3] <;> omega)
       go_quiet (fail)
       go_wp2_with fail
       go_meet
       exact ⟨by rw [HK.out] <;> rfl, ⟨HS.out.below (drewN_below _ _)⟩, ⟨HX.out.below (drewN_below _ _)⟩, ⟨HB.out.trans ((drewN_below _ _).mono HB.out.size)⟩, ⟨Kd.C_below HG.out (drewN_below _ _)⟩⟩
   case rest =>
    clear HS HX HB HE HG
    obtain ⟨rfl, HS, HX, HB, HG⟩ := hcut
    rcases hrow : taskA t x with _ | _
    ·have HK := Aside0.mk (show tasksB t = false from by unfold tasksB; rw [all_no HLT.out (by unfold taskAt; rw [HN2.out, hrow]; rfl)]; rfl)
     clear hrow HR
     go_wp2_with fail
     go_ret
     exact ⟨ret_b HK.out, HB.out⟩
    ·have HROW := Aside0.mk hrow
     have HE := Aside0.mk (show taskB t x = ((x.f5 == -1 || decide (x.f0 ≤ x.f5) && decide (x.f5 ≤ 127)) && ownB t.f4 x.f6 x.f0 && x.f7 / 2 ^ min m 32 == 0) from by unfold taskB; rw [HM.out, Int.toNat_natCast])
     clear hrow
     go_upto_region 6 with fail
     go_cut [86] (fun s wx => s = .bool (!taskB t x) ∧ Aside0 (At wx B V t) ∧ Aside0 (Below w.heap.size w wx))
     case first =>
      have x0 := HX.out.g0
      have x5 := HX.out.g5
      have x6 := HX.out.g6
      by_cases h1 : x.f5 = -1
      ·have P1 := Aside0.mk h1
       have b1 : (x.f5 == -1) = true := by rw [beq_iff_eq]; exact h1
       have b1x : (x.f5 != -1) = false := by rw [bne_eq_false_iff_eq]; exact h1
       clear h1
       go_wp2_with ((with_reducible refine gate_dst (N := 71) rfl ?_); (refine gate_guard (by rfl) ?_; dsimp only); refine load33 HS.out rfl (.tmp 1) rfl rfl ?_)
       have hx := own_calls V t A6 c6 x.f6 x.f0 wc HS.out.tb HG.out HL6.out
       unfold arr at hx
       refine hx.mono ?_
       clear hx
       rintro e w3 ⟨rfl, B3⟩
       replace HB := Aside0.mk (HB.out.trans (B3.mono HB.out.size))
       replace HS := Aside0.mk (HS.out.below B3)
       replace HX := Aside0.mk (HX.out.below B3)
       have x7 := HX.out.g7
       have q1 := HS.out.q1
       rw [HM.out] at q1
       clear B3
       rcases h2 : ownB t.f4 x.f6 x.f0 with _ | _
       ·have P2 := Aside0.mk h2
        have b2 := h2
        clear h2
        have HK := Aside0.mk (show taskB t x = false from by have h1 := P1.out; have h2 := P2.out; rw [HE.out]; simp [eq_self, h1, h2] <;> omega)
        go_wp2_with fail
        go_meet
        exact ⟨by rw [HK.out] <;> rfl, HS, HB⟩
       ·have P2 := Aside0.mk h2
        have b2 := h2
        clear h2
        by_cases h3 : x.f7 / 2 ^ min m 32 = 0
        ·have P3 := Aside0.mk h3
         have b3 : (x.f7 / 2 ^ min m 32 == 0) = true := by rw [beq_iff_eq]; exact h3
         have b3x : (x.f7 / 2 ^ min m 32 != 0) = false := by rw [bne_eq_false_iff_eq]; exact h3
         clear h3
         have HK := Aside0.mk (show taskB t x = true from by have h1 := P1.out; have h2 := P2.out; have h3 := P3.out; rw [HE.out]; simp [eq_self, h1, h2, h3] <;> omega)
         go_wp2_with fail
         go_meet
         exact ⟨by rw [HK.out] <;> rfl, HS, HB⟩
        ·have P3 := Aside0.mk h3
         have b3 : (x.f7 / 2 ^ min m 32 == 0) = false := by rw [beq_eq_false_iff_ne]; exact h3
         have b3x : (x.f7 / 2 ^ min m 32 != 0) = true := by rw [bne_iff_ne]; exact h3
         clear h3
         have HK := Aside0.mk (show taskB t x = false from by have h1 := P1.out; have h2 := P2.out; have h3 := P3.out; rw [HE.out]; simp [eq_self, h1, h2, h3] <;> omega)
         go_wp2_with fail
         go_meet
         exact ⟨by rw [HK.out] <;> rfl, HS, HB⟩
      ·have P1 := Aside0.mk h1
       have b1 : (x.f5 == -1) = false := by rw [beq_eq_false_iff_ne]; exact h1
       have b1x : (x.f5 != -1) = true := by rw [bne_iff_ne]; exact h1
       clear h1
       by_cases h4 : x.f5 < x.f0
       ·have P4 := Aside0.mk h4
        have b4 : decide (x.f5 < x.f0) = true := decide_eq_true h4
        clear h4
        have HK := Aside0.mk (show taskB t x = false from by have h1 := P1.out; have h4 := P4.out; rw [HE.out]; simp [eq_self, h1, h4] <;> omega)
        go_wp2_with fail
        go_meet
        exact ⟨by rw [HK.out] <;> rfl, HS, HB⟩
       ·have P4 := Aside0.mk h4
        have b4 : decide (x.f5 < x.f0) = false := decide_eq_false h4
        clear h4
        by_cases h5 : 127 < x.f5
        ·have P5 := Aside0.mk h5
         have b5 : decide (127 < x.f5) = true := decide_eq_true h5
         clear h5
         have HK := Aside0.mk (show taskB t x = false from by have h1 := P1.out; have h4 := P4.out; have h5 := P5.out; rw [HE.out]; simp [eq_self, h1, h4, h5] <;> omega)
         go_wp2_with fail
         go_meet
         exact ⟨by rw [HK.out] <;> rfl, HS, HB⟩
        ·have P5 := Aside0.mk h5
         have b5 : decide (127 < x.f5) = false := decide_eq_false h5
         clear h5
         go_wp2_with ((with_reducible refine gate_dst (N := 71) rfl ?_); (refine gate_guard (by rfl) ?_; dsimp only); refine load33 HS.out rfl (.tmp 1) rfl rfl ?_)
         have hx := own_calls V t A6 c6 x.f6 x.f0 wc HS.out.tb HG.out HL6.out
         unfold arr at hx
         refine hx.mono ?_
         clear hx
         rintro e w3 ⟨rfl, B3⟩
         replace HB := Aside0.mk (HB.out.trans (B3.mono HB.out.size))
         replace HS := Aside0.mk (HS.out.below B3)
         replace HX := Aside0.mk (HX.out.below B3)
         have x7 := HX.out.g7
         have q1 := HS.out.q1
         rw [HM.out] at q1
         clear B3
         rcases h6 : ownB t.f4 x.f6 x.f0 with _ | _
         ·have P6 := Aside0.mk h6
          have b6 := h6
          clear h6
          have HK := Aside0.mk (show taskB t x = false from by have h1 := P1.out; have h4 := P4.out; have h5 := P5.out; have h6 := P6.out; rw [HE.out]; simp [eq_self, h1, h4, h5, h6] <;> omega)
          go_wp2_with fail
          go_meet
          exact ⟨by rw [HK.out] <;> rfl, HS, HB⟩
         ·have P6 := Aside0.mk h6
          have b6 := h6
          clear h6
          by_cases h7 : x.f7 / 2 ^ min m 32 = 0
          ·have P7 := Aside0.mk h7
           have b7 : (x.f7 / 2 ^ min m 32 == 0) = true := by rw [beq_iff_eq]; exact h7
           have b7x : (x.f7 / 2 ^ min m 32 != 0) = false := by rw [bne_eq_false_iff_eq]; exact h7
           clear h7
           have HK := Aside0.mk (show taskB t x = true from by have h1 := P1.out; have h4 := P4.out; have h5 := P5.out; have h6 := P6.out; have h7 := P7.out; rw [HE.out]; simp [eq_self, h1, h4, h5, h6, h7] <;> omega)
           go_wp2_with fail
           go_meet
           exact ⟨by rw [HK.out] <;> rfl, HS, HB⟩
          ·have P7 := Aside0.mk h7
           have b7 : (x.f7 / 2 ^ min m 32 == 0) = false := by rw [beq_eq_false_iff_ne]; exact h7
           have b7x : (x.f7 / 2 ^ min m 32 != 0) = true := by rw [bne_iff_ne]; exact h7
           clear h7
           have HK := Aside0.mk (show taskB t x = false from by have h1 := P1.out; have h4 := P4.out; have h5 := P5.out; have h6 := P6.out; have h7 := P7.out; rw [HE.out]; simp [eq_self, h1, h4, h5, h6, h7] <;> omega)
           go_wp2_with fail
           go_meet
           exact ⟨by rw [HK.out] <;> rfl, HS, HB⟩
     case rest =>
      clear HS HX HB HE
      obtain ⟨rfl, HS, HB⟩ := hcut
      rcases hrow : taskB t x with _ | _
      ·have HK := Aside0.mk (show tasksB t = false from by unfold tasksB; rw [all_no HLT.out (by unfold taskAt; rw [HN2.out, hrow, Bool.and_false])]; rfl)
       clear hrow HR
       go_wp2_with fail
       go_ret
       exact ⟨ret_b HK.out, HB.out⟩
      ·have HT := Aside0.mk (upto_next HR.out (show taskAt t k = true from by unfold taskAt; rw [HN2.out, HROW.out, hrow]; rfl))
       clear hrow HR
       go_wp2_with fail
       go_roundg (t.f2.length - (k + 1))
       case measure => have := HLT.out; omega
       case rel => exact ⟨k + 1, HLT.out, rfl, by go_num, HS, HB, HT⟩
  ·have hd : decide ((k : Int) < (t.f2.length : Int)) = false := decide_eq_false (by omega)
   have HALL := Aside0.mk (show (List.range t.f2.length).all (taskAt t) = true from all_yes (fun i hi => HR.out i (by omega)))
   clear HR
   go_upto_region 9 with fail
   have q2 := HS.out.q2
   have q3 := HS.out.q3
   refine start_ (n := 7) (S := fun w_ => Below wr.heap.size wr w_) (ds := []) #[false, false, false, false, false, false, false] (by kernel_rfl) rfl rfl (drew_below wr) (fun hHeld => ?_)
   have HH := Aside0.mk hHeld
   clear hHeld
   generalize wr.drew = wv at HH ⊢
   refine pure_ (i := 0) (N := some 88) (v := ?_) (a' := ?_) #[true, false, false, false, false, false, false] rfl rfl (by kernel_rfl) (fun _ _ _ h => h) (Or.inl ⟨by rfl, ?_⟩) ?_ ?_
   rotate_left
   ·intro w_
    go_simp
    with_reducible rfl
   rotate_left
   ·simp only [Act.put, List.setIfInBounds_toArray, List.set_cons_zero, List.set_cons_succ, i64_w, i32_w]
    rfl
   refine take_ (i := 1) (N := some 89) (v := ?_) (a' := ?_) #[true, true, false, false, false, false, false] rfl rfl (by kernel_rfl) (fun _ _ _ h => h) (Or.inl ⟨by rfl, ?_⟩) HH.out ?_ ?_
   rotate_left
   ·rintro w_ s
    have q2 := (s.cell (World.block_lt_of_cell? wr _ q2)).trans q2; have q3 := (s.cell (World.block_lt_of_cell? wr _ q3)).trans q3
    go_simp
    with_reducible rfl
   rotate_left
   ·simp only [Act.put, List.setIfInBounds_toArray, List.set_cons_zero, List.set_cons_succ, i64_w, i32_w]
    rfl
   refine pure_ (i := 3) (N := some 91) (v := ?_) (a' := ?_) #[true, true, false, true, false, false, false] rfl rfl (by kernel_rfl) (fun _ _ _ h => h) (Or.inl ⟨by rfl, ?_⟩) ?_ ?_
   rotate_left
   ·intro w_
    go_simp
    with_reducible rfl
   rotate_left
   ·simp only [Act.put, List.setIfInBounds_toArray, List.set_cons_zero, List.set_cons_succ, i64_w, i32_w]
    rfl
   refine take_ (i := 4) (N := some 92) (v := ?_) (a' := ?_) #[true, true, false, true, true, false, false] rfl rfl (by kernel_rfl) (fun _ _ _ h => h) (Or.inl ⟨by rfl, ?_⟩) HH.out ?_ ?_
   rotate_left
   ·rintro w_ s
    have q2 := (s.cell (World.block_lt_of_cell? wr _ q2)).trans q2; have q3 := (s.cell (World.block_lt_of_cell? wr _ q3)).trans q3
    go_simp
    with_reducible rfl
   rotate_left
   ·simp only [Act.put, List.setIfInBounds_toArray, List.set_cons_zero, List.set_cons_succ, i64_w, i32_w]
    rfl
   refine one_ (i := 2) (N := some 90) #[true, true, true, true, true, false, false] rfl rfl (by kernel_rfl) (by decide) (fun K hK => ?_)
   refine goes_ Try.func88 (by kernel_rfl) rfl #[.slice V.a2 t.f2.length V.k2] (by rfl) rfl rfl (by first | rfl | (simp only [List.map_toArray, List.map_cons, List.map_nil]; rfl) | simp) ?_
   have H1 := HS.out.below HH.out
   refine (rings_calls V.a2 V.k2 t.f2 wv H1.tb.tk H1.tb.tkl HN.out (task_lim HALL.out)).mono ?_
   clear H1
   rintro e wb ⟨v, rfl, HR1, B2⟩
   obtain ⟨A1, c1, rfl, hc1, hC1⟩ := Kd.R_reads HR1
   have HC1 := Aside0.mk hC1
   have HCL := Aside0.mk hc1
   clear HR1 hC1 hc1
   refine ⟨_, rfl, ?_⟩
   have HH2 := Aside0.mk (HH.out.trans (B2.mono HH.out.size))
   clear HH B2
   have HH := HH2
   clear HH2
   refine hK.out _ _ HH.out (fun _ => ?_)
   clear hK K
   refine norm_ (a' := ?_) ?_ ?_
   rotate_left
   ·show Act.put _ (some 90) _ = _
    simp only [Act.put, List.setIfInBounds_toArray, List.set_cons_zero, List.set_cons_succ, i64_w, i32_w]
    rfl
   refine one_ (i := 5) (N := some 93) #[true, true, true, true, true, true, false] rfl rfl (by kernel_rfl) (by decide) (fun K hK => ?_)
   refine goes_ Try.func59 (by kernel_rfl) rfl #[.slice A1 (ringsOf t.f2).length c1, .slice V.a3 t.f3.length V.k3] (by rfl) rfl rfl (by first | rfl | (simp only [List.map_toArray, List.map_cons, List.map_nil]; rfl) | simp) ?_
   have H1 := HS.out.below HH.out
   refine (eqRing_calls A1 V.a3 c1 V.k3 (ringsOf t.f2) t.f3 wb HC1.out H1.tb.rg HCL.out H1.tb.rgl).mono ?_
   clear H1
   rintro e wd ⟨rfl, B2⟩
   refine ⟨_, rfl, ?_⟩
   have HH2 := Aside0.mk (HH.out.trans (B2.mono HH.out.size))
   clear HH B2
   have HH := HH2
   clear HH2
   refine hK.out _ _ HH.out (fun _ => ?_)
   clear hK K
   refine norm_ (a' := ?_) ?_ ?_
   rotate_left
   ·show Act.put _ (some 93) _ = _
    simp only [Act.put, List.setIfInBounds_toArray, List.set_cons_zero, List.set_cons_succ, i64_w, i32_w]
    rfl
   refine pure_ (i := 6) (N := some 2) (v := ?_) (a' := ?_) #[true, true, true, true, true, true, true] rfl rfl (by kernel_rfl) (fun _ _ _ h => h) (Or.inl ⟨by rfl, ?_⟩) ?_ ?_
   rotate_left
   ·intro w_
    go_simp
    with_reducible rfl
   rotate_left
   ·simp only [Act.put, List.setIfInBounds_toArray, List.set_cons_zero, List.set_cons_succ, i64_w, i32_w]
    rfl
   refine done_ (by kernel_rfl) ?_
   have HT := Aside0.mk (show tasksB t = eqL eq88 (ringsOf t.f2) t.f3 from by unfold tasksB; rw [HALL.out, Bool.true_and])
   have HB2 := Aside0.mk (HB.out.trans (HH.out.mono HB.out.size))
   go_wp2_with fail
   go_ret
   exact ⟨ret_b HT.out, HB2.out⟩
end Go.Proofs.Ytbgcemijihpakaa.XA
