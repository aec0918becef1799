/- package table's isrs. -/
import Derived.Test.YtbgcemijihpakaaG07
section
namespace Go.Proofs.Ytbgcemijihpakaa.XA
set_option linter.unusedVariables false
set_option linter.unusedSimpArgs false
open Go.RowKit Go.WideMaps Go.Maps Go.Proofs.YtbgcemijihpakaaW.PrintWords Go.Proofs.YtbgcemijihpakaaW.PrintLast Go.Proofs.YtbgcemijihpakaaW.PrintMore
def clashI (x y : S107) : Bool := x.f1 == y.f1 || decide (x.f0 < y.f0) && decide (x.f1 < y.f1) || decide (y.f0 < x.f0) && decide (y.f1 < x.f1)
def isrRow (rs : List S66) (x : S107) : Bool := (x.f0 == 1 || x.f0 == 2) && decide (64 ≤ x.f1) && decide (x.f1 ≤ 127) && ownB rs x.f2 x.f1 && (x.f0 != 1 || !decide (0 < x.f2.length))
def isrAt (t : S33) (i : Nat) : Bool := isrRow t.f4 (t.f7.getD i z107) && (List.range i).all fun k => !clashI (t.f7.getD i z107) (t.f7.getD k z107)
def isrsB (t : S33) : Bool := (List.range t.f7.length).all (isrAt t)
set_option maxRecDepth 1000000 in
set_option maxHeartbeats 4000000 in
theorem isrs_calls (V : TV) (t : S33) (w : World) (h : Tb w V t) :
  Calls Try.prog 26 #[.agg (arr V t)] w fun e w' => e = .returned (.bool (isrsB t)) ∧ Below w.heap.size w w' := by
 have HS := Aside0.mk (At.made h)
 have HB := Aside0.mk (below_a w (.cells (arr V t) 33))
 clear h
 unfold arr at *
 go_enter Try.func26, Try.ntmps26
 go_upto_region 1 with fail
 generalize w.alloc (.cells #[.int .i64 t.f0, .int .i64 t.f1, .slice V.a2 t.f2.length V.k2, .slice V.a3 t.f3.length V.k3, .slice V.a4 t.f4.length V.k4, .slice V.a5 t.f5.length V.k5, .slice V.a6 t.f6.length V.k6, .slice V.a7 t.f7.length V.k7, .slice V.a8 t.f8.length V.k8, .int .i64 t.f9, .int .i64 t.f10, .int .i64 t.f11, .int .i64 t.f12] 33) = w1 at *
 generalize hW : w.heap.size = B at HS ⊢
 have HW := Aside0.mk hW
 clear hW
 have q7 := HS.out.q7
 go_wp2_with fail
 clear q7
 generalize hA : V.a7 = A7
 have HV := Aside0.mk hA
 clear hA
 go_loopg [10] t.f7.length (fun g i wr => ∃ k : Nat, k ≤ t.f7.length ∧ g = t.f7.length - k ∧ i = .int .i64 k ∧ Aside0 (At wr B V t) ∧ Aside0 (Below w.heap.size w wr) ∧ Aside0 (∀ j, j < k → isrAt t j = true))
 case atStart => exact ⟨0, by omega, rfl, rfl, HS, HB, ⟨fun j hj => by omega⟩⟩
 case round =>
  clear HS HB
  obtain ⟨k, hk, rfl, rfl, HS, HB, HR⟩ := hrel
  by_cases hlt : k < t.f7.length
  ·have hd : decide ((k : Int) < (t.f7.length : Int)) = true := decide_eq_true (by omega)
   obtain ⟨x, ad, A2, c2, hx, e, HA, l2, g2⟩ := isr_at HS.out.tb.ir k hlt
   obtain rfl : A7 = some ad := by rw [← HV.out]; exact e
   have HAX := Aside0.mk HA
   have HN := Aside0.mk hx
   have B1 := below_a wr (.cells #[.int .i64 x.f0, .int .i64 x.f1, .slice A2 x.f2.length c2] 107)
   have HX := Aside0.mk (At107.made wr x A2 c2)
   have HG := Aside0.mk (Kd.C_below g2 B1)
   have HL2 := Aside0.mk l2
   have HLT := Aside0.mk hlt
   clear hx e HA l2 g2
   go_upto_region 4 with (first | ((with_reducible refine gate_dst (N := 14) rfl ?_); refine load107 HAX.out rfl (.tmp 13) rfl rfl ?_) | (refine store107 (by rfl) #[.int .i64 x.f0, .int .i64 x.f1, .slice A2 x.f2.length c2] (by rfl) (by simp [Value.oneCell']) (by rfl) (.tmp 4) (.tmp 14) (by rfl) (by rfl) (by rfl) (by rfl) ?_))
   replace HB := Aside0.mk (HB.out.trans (B1.mono HB.out.size))
   replace HS := Aside0.mk (HS.out.below B1)
   clear B1 HAX
   generalize wr.alloc (.cells #[.int .i64 x.f0, .int .i64 x.f1, .slice A2 x.f2.length c2] 107) = w2 at *
   generalize wr.heap.size = P at *
   have HE := Aside0.mk (show isrRow t.f4 x = ((x.f0 == 1 || x.f0 == 2) && decide (64 ≤ x.f1) && decide (x.f1 ≤ 127) && ownB t.f4 x.f2 x.f1 && (x.f0 != 1 || !decide (0 < x.f2.length))) from rfl)
   go_cut [52] (fun s wx => s = .bool (!isrRow t.f4 x) ∧ Aside0 (At wx B V t) ∧ Aside0 (At107 wx ⟨P, 0, none⟩ x A2 c2) ∧ Aside0 (Below w.heap.size w wx))
   case first =>
    have x0 := HX.out.g0
    have x1 := HX.out.g1
    have x2 := HX.out.g2
    by_cases h1 : x.f0 = 1
    ·have P1 := Aside0.mk h1
     have b1 : (x.f0 == 1) = true := by rw [beq_iff_eq]; exact h1
     have b1x : (x.f0 != 1) = false := by rw [bne_eq_false_iff_eq]; exact h1
     clear h1
     by_cases h2 : x.f1 < 64
     ·have P2 := Aside0.mk h2
      have b2 : decide (x.f1 < 64) = true := decide_eq_true h2
      clear h2
      have HK := Aside0.mk (show isrRow t.f4 x = false from by have h1 := P1.out; have h2 := P2.out; rw [HE.out]; simp [eq_self, h1, h2] <;> omega)
      go_wp2_with fail
      go_meet
      exact ⟨by rw [HK.out] <;> rfl, HS, HX, HB⟩
     ·have P2 := Aside0.mk h2
      have b2 : decide (x.f1 < 64) = false := decide_eq_false h2
      clear h2
      by_cases h3 : 127 < x.f1
      ·have P3 := Aside0.mk h3
       have b3 : decide (127 < x.f1) = true := decide_eq_true h3
       clear h3
       have HK := Aside0.mk (show isrRow t.f4 x = false from by have h1 := P1.out; have h2 := P2.out; have h3 := P3.out; rw [HE.out]; simp [eq_self, h1, h2, h3] <;> omega)
       go_wp2_with fail
       go_meet
       exact ⟨by rw [HK.out] <;> rfl, HS, HX, HB⟩
      ·have P3 := Aside0.mk h3
       have b3 : decide (127 < x.f1) = false := decide_eq_false h3
       clear h3
       go_wp2_with ((with_reducible refine gate_dst (N := 34) rfl ?_); (refine gate_guard (by rfl) ?_; dsimp only); refine load33 HS.out rfl (.tmp 1) rfl rfl ?_)
       have hx := own_calls V t A2 c2 x.f2 x.f1 w2 HS.out.tb HG.out HL2.out
       unfold arr at hx
       refine hx.mono ?_
       clear hx
       rintro e w3 ⟨rfl, B3⟩
       replace HB := Aside0.mk (HB.out.trans (B3.mono HB.out.size))
       replace HS := Aside0.mk (HS.out.below B3)
       replace HX := Aside0.mk (HX.out.below B3)
       have x0 := HX.out.g0
       have x2 := HX.out.g2
       clear B3 HG HL2
       rcases h4 : ownB t.f4 x.f2 x.f1 with _ | _
       ·have P4 := Aside0.mk h4
        have b4 := h4
        clear h4
        have HK := Aside0.mk (show isrRow t.f4 x = false from by have h1 := P1.out; have h2 := P2.out; have h3 := P3.out; have h4 := P4.out; rw [HE.out]; simp [eq_self, h1, h2, h3, h4] <;> omega)
        go_wp2_with fail
        go_meet
        exact ⟨by rw [HK.out] <;> rfl, HS, HX, HB⟩
       ·have P4 := Aside0.mk h4
        have b4 := h4
        clear h4
        by_cases h5 : 0 < x.f2.length
        ·have P5 := Aside0.mk h5
         have b5 : decide (0 < x.f2.length) = true := decide_eq_true h5
         have b5x : decide ((0 : Int) < (x.f2.length : Int)) = true := decide_eq_true (by omega)
         clear h5
         have HK := Aside0.mk (show isrRow t.f4 x = false from by have h1 := P1.out; have h2 := P2.out; have h3 := P3.out; have h4 := P4.out; have h5 := P5.out; rw [HE.out]; simp [eq_self, h1, h2, h3, h4, h5] <;> omega)
         go_wp2_with fail
         go_meet
         exact ⟨by rw [HK.out] <;> rfl, HS, HX, HB⟩
        ·have P5 := Aside0.mk h5
         have b5 : decide (0 < x.f2.length) = false := decide_eq_false h5
         have b5x : decide ((0 : Int) < (x.f2.length : Int)) = false := decide_eq_false (by omega)
         clear h5
         have HK := Aside0.mk (show isrRow t.f4 x = true from by have h1 := P1.out; have h2 := P2.out; have h3 := P3.out; have h4 := P4.out; have h5 := P5.out; rw [HE.out]; simp [eq_self, h1, h2, h3, h4, h5] <;> omega)
         go_wp2_with fail
         go_meet
         exact ⟨by rw [HK.out] <;> rfl, HS, HX, HB⟩
    ·have P1 := Aside0.mk h1
     have b1 : (x.f0 == 1) = false := by rw [beq_eq_false_iff_ne]; exact h1
     have b1x : (x.f0 != 1) = true := by rw [bne_iff_ne]; exact h1
     clear h1
     by_cases h6 : x.f0 = 2
     ·have P6 := Aside0.mk h6
      have b6 : (x.f0 == 2) = true := by rw [beq_iff_eq]; exact h6
      have b6x : (x.f0 != 2) = false := by rw [bne_eq_false_iff_eq]; exact h6
      clear h6
      by_cases h7 : x.f1 < 64
      ·have P7 := Aside0.mk h7
       have b7 : decide (x.f1 < 64) = true := decide_eq_true h7
       clear h7
       have HK := Aside0.mk (show isrRow t.f4 x = false from by have h1 := P1.out; have h6 := P6.out; have h7 := P7.out; rw [HE.out]; simp [eq_self, h1, h6, h7] <;> omega)
       go_wp2_with fail
       go_meet
       exact ⟨by rw [HK.out] <;> rfl, HS, HX, HB⟩
      ·have P7 := Aside0.mk h7
       have b7 : decide (x.f1 < 64) = false := decide_eq_false h7
       clear h7
       by_cases h8 : 127 < x.f1
       ·have P8 := Aside0.mk h8
        have b8 : decide (127 < x.f1) = true := decide_eq_true h8
        clear h8
        have HK := Aside0.mk (show isrRow t.f4 x = false from by have h1 := P1.out; have h6 := P6.out; have h7 := P7.out; have h8 := P8.out; rw [HE.out]; simp [eq_self, h1, h6, h7, h8] <;> omega)
        go_wp2_with fail
        go_meet
        exact ⟨by rw [HK.out] <;> rfl, HS, HX, HB⟩
       ·have P8 := Aside0.mk h8
        have b8 : decide (127 < x.f1) = false := decide_eq_false h8
        clear h8
        go_wp2_with ((with_reducible refine gate_dst (N := 34) rfl ?_); (refine gate_guard (by rfl) ?_; dsimp only); refine load33 HS.out rfl (.tmp 1) rfl rfl ?_)
        have hx := own_calls V t A2 c2 x.f2 x.f1 w2 HS.out.tb HG.out HL2.out
        unfold arr at hx
        refine hx.mono ?_
        clear hx
        rintro e w3 ⟨rfl, B3⟩
        replace HB := Aside0.mk (HB.out.trans (B3.mono HB.out.size))
        replace HS := Aside0.mk (HS.out.below B3)
        replace HX := Aside0.mk (HX.out.below B3)
        have x0 := HX.out.g0
        have x2 := HX.out.g2
        clear B3 HG HL2
        rcases h9 : ownB t.f4 x.f2 x.f1 with _ | _
        ·have P9 := Aside0.mk h9
         have b9 := h9
         clear h9
         have HK := Aside0.mk (show isrRow t.f4 x = false from by have h1 := P1.out; have h6 := P6.out; have h7 := P7.out; have h8 := P8.out; have h9 := P9.out; rw [HE.out]; simp [eq_self, h1, h6, h7, h8, h9] <;> omega)
         go_wp2_with fail
         go_meet
         exact ⟨by rw [HK.out] <;> rfl, HS, HX, HB⟩
        ·have P9 := Aside0.mk h9
         have b9 := h9
         clear h9
         have HK := Aside0.mk (show isrRow t.f4 x = true from by have h1 := P1.out; have h6 := P6.out; have h7 := P7.out; have h8 := P8.out; have h9 := P9.out; rw [HE.out]; simp [eq_self, h1, h6, h7, h8, h9] <;> omega)
         go_wp2_with fail
         go_meet
         exact ⟨by rw [HK.out] <;> rfl, HS, HX, HB⟩
     ·have P6 := Aside0.mk h6
      have b6 : (x.f0 == 2) = false := by rw [beq_eq_false_iff_ne]; exact h6
      have b6x : (x.f0 != 2) = true := by rw [bne_iff_ne]; exact h6
      clear h6
      have HK := Aside0.mk (show isrRow t.f4 x = false from by have h1 := P1.out; have h6 := P6.out; rw [HE.out]; simp [eq_self, h1, h6] <;> omega)
      go_wp2_with fail
      go_meet
      exact ⟨by rw [HK.out] <;> rfl, HS, HX, HB⟩
   case rest =>
    clear HS HX HB HG
    obtain ⟨rfl, HS, HX, HB⟩ := hcut
    rcases hrow : isrRow t.f4 x with _ | _
    ·have HK := Aside0.mk (show isrsB t = false from all_no HLT.out (by unfold isrAt; rw [HN.out, hrow]; rfl))
     clear hrow HR
     go_wp2_with fail
     go_ret
     exact ⟨ret_b HK.out, HB.out⟩
    ·have HROW := Aside0.mk hrow
     have q7 := HS.out.q7
     rw [HV.out] at q7
     have hcap : k ≤ V.k7 := Nat.le_trans (Nat.le_of_lt HLT.out) HS.out.tb.irl
     have hbd : k ≤ 140737488355328 := Nat.le_trans (Nat.le_of_lt HLT.out) HS.out.tb.bd.ir
     clear hrow
     go_wp2_with fail
     clear q7
     go_loopg [58] k (fun g i wr => ∃ j : Nat, j ≤ k ∧ g = k - j ∧ i = .int .i64 j ∧ Aside0 (At wr B V t) ∧ Aside0 (At107 wr ⟨P, 0, none⟩ x A2 c2) ∧ Aside0 (Below w.heap.size w wr) ∧ Aside0 (∀ m, m < j → (!clashI x (t.f7.getD m z107)) = true))
     case atStart => exact ⟨0, by omega, rfl, rfl, HS, HX, HB, ⟨fun j hj => by omega⟩⟩
     case round =>
      clear HS HX HB
      obtain ⟨j, hj, rfl, rfl, HS, HX, HB, HM⟩ := hrel
      by_cases hlj : j < k
      ·have hd2 : decide ((j : Int) < (k : Int)) = true := decide_eq_true (by omega)
       obtain ⟨y, ad2, A3, c3, hy, e, HA, l3, g3⟩ := isr_at HS.out.tb.ir j (by have := HLT.out; omega)
       obtain rfl : ad2 = ad := by rw [HV.out] at e; injection e with e; exact e.symm
       have HAX := Aside0.mk HA
       have HY0 := Aside0.mk hy
       have B1 := below_a wr (.cells #[.int .i64 y.f0, .int .i64 y.f1, .slice A3 y.f2.length c3] 107)
       have HY := Aside0.mk (At107.made wr y A3 c3)
       have HLJ := Aside0.mk hlj
       clear hy e HA l3 g3
       go_upto_region 9 with (first | ((with_reducible refine gate_dst (N := 61) rfl ?_); refine load107 HAX.out rfl (.tmp 60) rfl rfl ?_) | (refine store107 (by rfl) #[.int .i64 y.f0, .int .i64 y.f1, .slice A3 y.f2.length c3] (by rfl) (by simp [Value.oneCell']) (by rfl) (.tmp 6) (.tmp 61) (by rfl) (by rfl) (by rfl) (by rfl) ?_))
       replace HB := Aside0.mk (HB.out.trans (B1.mono HB.out.size))
       replace HS := Aside0.mk (HS.out.below B1)
       replace HX := Aside0.mk (HX.out.below B1)
       clear B1 HAX
       generalize wr.alloc (.cells #[.int .i64 y.f0, .int .i64 y.f1, .slice A3 y.f2.length c3] 107) = w3 at *
       generalize wr.heap.size = P2 at *
       go_cut [86] (fun s wx => s = .bool (clashI x y) ∧ wx = w3)
       case first =>
        have x0 := HX.out.g0
        have x1 := HX.out.g1
        have y0 := HY.out.g0
        have y1 := HY.out.g1
        by_cases h1 : x.f1 = y.f1
        ·have P1 := Aside0.mk h1
         have b1 : (x.f1 == y.f1) = true := by rw [beq_iff_eq]; exact h1
         have b1x : (x.f1 != y.f1) = false := by rw [bne_eq_false_iff_eq]; exact h1
         clear h1
         have HK := Aside0.mk (show clashI x y = true from by have h1 := P1.out; unfold clashI; simp [eq_self, h1] <;> omega)
         go_wp2_with fail
         go_meet
         exact ⟨by rw [HK.out], rfl⟩
        ·have P1 := Aside0.mk h1
         have b1 : (x.f1 == y.f1) = false := by rw [beq_eq_false_iff_ne]; exact h1
         have b1x : (x.f1 != y.f1) = true := by rw [bne_iff_ne]; exact h1
         clear h1
         by_cases h2 : x.f0 < y.f0
         ·have P2 := Aside0.mk h2
          have b2 : decide (x.f0 < y.f0) = true := decide_eq_true h2
          clear h2
          by_cases h3 : y.f1 < x.f1
          ·have P3 := Aside0.mk h3
           have b3 : decide (y.f1 < x.f1) = true := decide_eq_true h3
           clear h3
           have HK := Aside0.mk (show clashI x y = false from by have h1 := P1.out; have h2 := P2.out; have h3 := P3.out; unfold clashI; simp [eq_self, h1, h2, h3] <;> omega)
           go_wp2_with fail
           go_meet
           exact ⟨by rw [HK.out], rfl⟩
          ·have P3 := Aside0.mk h3
           have b3 : decide (y.f1 < x.f1) = false := decide_eq_false h3
           clear h3
           have nb : (x.f0 != y.f0) = true := by have h1 := P1.out; have h2 := P2.out; have h3 := P3.out; rw [bne_iff_ne]; omega
           have HK := Aside0.mk (show clashI x y = true from by have h1 := P1.out; have h2 := P2.out; have h3 := P3.out; unfold clashI; simp [eq_self, h1, h2, h3] <;> omega)
           go_wp2_with fail
           go_meet
           exact ⟨by rw [HK.out], rfl⟩
         ·have P2 := Aside0.mk h2
          have b2 : decide (x.f0 < y.f0) = false := decide_eq_false h2
          clear h2
          by_cases h4 : y.f1 < x.f1
          ·have P4 := Aside0.mk h4
           have b4 : decide (y.f1 < x.f1) = true := decide_eq_true h4
           clear h4
           by_cases h5 : x.f0 = y.f0
           ·have P5 := Aside0.mk h5
            have b5 : (x.f0 == y.f0) = true := by rw [beq_iff_eq]; exact h5
            have b5x : (x.f0 != y.f0) = false := by rw [bne_eq_false_iff_eq]; exact h5
            clear h5
            have HK := Aside0.mk (show clashI x y = false from by have h1 := P1.out; have h2 := P2.out; have h4 := P4.out; have h5 := P5.out; unfold clashI; simp [eq_self, h1, h2, h4, h5] <;> omega)
            go_wp2_with fail
            go_meet
            exact ⟨by rw [HK.out], rfl⟩
           ·have P5 := Aside0.mk h5
            have b5 : (x.f0 == y.f0) = false := by rw [beq_eq_false_iff_ne]; exact h5
            have b5x : (x.f0 != y.f0) = true := by rw [bne_iff_ne]; exact h5
            clear h5
            have HK := Aside0.mk (show clashI x y = true from by have h1 := P1.out; have h2 := P2.out; have h4 := P4.out; have h5 := P5.out; unfold clashI; simp [eq_self, h1, h2, h4, h5] <;> omega)
            go_wp2_with fail
            go_meet
            exact ⟨by rw [HK.out], rfl⟩
          ·have P4 := Aside0.mk h4
           have b4 : decide (y.f1 < x.f1) = false := decide_eq_false h4
           clear h4
           have HK := Aside0.mk (show clashI x y = false from by have h1 := P1.out; have h2 := P2.out; have h4 := P4.out; unfold clashI; simp [eq_self, h1, h2, h4] <;> omega)
           go_wp2_with fail
           go_meet
           exact ⟨by rw [HK.out], rfl⟩
       case rest =>
        obtain ⟨rfl, rfl⟩ := hcut
        rcases hc : clashI x y with _ | _
        ·have HT := Aside0.mk (upto_next HM.out (show (!clashI x (t.f7.getD j z107)) = true from by rw [HY0.out, hc]; rfl))
         clear hc HM
         go_wp2_with fail
         go_roundg (k - (j + 1))
         case measure => have := HLJ.out; omega
         case rel => exact ⟨j + 1, HLJ.out, rfl, by go_num, HS, HX, HB, HT⟩
        ·have HK := Aside0.mk (show isrsB t = false from all_no HLT.out (by
          unfold isrAt
          rw [HN.out, all_no (k := j) HLJ.out (by rw [HY0.out, hc]; rfl), Bool.and_false]))
         clear hc HM HR
         go_wp2_with fail
         go_ret
         exact ⟨ret_b HK.out, HB.out⟩
      ·have hd2 : decide ((j : Int) < (k : Int)) = false := decide_eq_false (by omega)
       have HT := Aside0.mk (upto_next HR.out (show isrAt t k = true from by
        unfold isrAt
        rw [HN.out, HROW.out, all_yes (fun i hi => HM.out i (by omega))]; rfl))
       clear HR HM
       go_wp2_with fail
       go_roundg (t.f7.length - (k + 1))
       case measure => have := HLT.out; omega
       case rel => exact ⟨k + 1, HLT.out, rfl, by go_num, HS, HB, HT⟩
  ·have hd : decide ((k : Int) < (t.f7.length : Int)) = false := decide_eq_false (by omega)
   have HT := Aside0.mk (show isrsB t = true from all_yes (fun i hi => HR.out i (by omega)))
   clear HR
   go_wp2_with fail
   go_ret
   exact ⟨ret_b HT.out, HB.out⟩
end Go.Proofs.Ytbgcemijihpakaa.XA
end
section
namespace Go.Proofs.Ytbgcemijihpakaa.XA
set_option linter.unusedVariables false
set_option linter.unusedSimpArgs false
open Go.RowKit Go.WideMaps Go.Maps Go.Proofs.YtbgcemijihpakaaW.PrintWords Go.Proofs.YtbgcemijihpakaaW.PrintLast Go.Proofs.YtbgcemijihpakaaW.PrintMore
/-- the activations of the tasks of a priority -/
def sumP : List S69 → Int → Int
 | [], _ => 0
 | x :: l, p => (if x.f0 = p then x.f3 else 0) + sumP l p
theorem sumP_snoc (l : List S69) (x : S69) (p : Int) : sumP (l ++ [x]) p = sumP l p + (if x.f0 = p then x.f3 else 0) := by
 induction l with
 | nil => simp [sumP]
 | cons y l ih =>
  simp only [List.cons_append, sumP, ih]
  omega
theorem sumP_step (l : List S69) (k : Nat) (p : Int) (h : k < l.length) : sumP (l.take (k + 1)) p = sumP (l.take k) p + (if (l.getD k z69).f0 = p then (l.getD k z69).f3 else 0) := by
 rw [List.take_succ_eq_append_getElem h, sumP_snoc, List.getD_eq_getElem?_getD, List.getElem?_eq_getElem h]
 rfl
theorem sumP_bd (l : List S69) (p : Int) (h : ∀ x ∈ l, 0 ≤ x.f3 ∧ x.f3 ≤ 255) : 0 ≤ sumP l p ∧ sumP l p ≤ 255 * l.length := by
 induction l with
 | nil => simp [sumP]
 | cons y l ih =>
  have h1 := ih (fun x hx => h x (List.mem_cons_of_mem _ hx))
  have h2 := h y (List.mem_cons_self ..)
  simp only [sumP, List.length_cons]
  split <;> omega
/-- rings made so far: of the m greatest priorities -/
def ringsUp (ts : List S69) : Nat → List S88
 | 0 => []
 | m + 1 => ringsUp ts m ++ (if 0 < sumP ts (63 - m) then [⟨63 - m, sumP ts (63 - m)⟩] else [])
def ringsOf (ts : List S69) : List S88 := ringsUp ts 64
theorem ringsUp_len (ts : List S69) (m : Nat) : (ringsUp ts m).length ≤ m := by
 induction m with
 | zero => simp [ringsUp]
 | succ m ih =>
  unfold ringsUp
  rw [List.length_append]
  split <;> simp <;> omega
theorem getD_mem {α : Type} {xs : List α} {k : Nat} {d : α} (h : k < xs.length) : xs.getD k d ∈ xs := by
 rw [List.getD_eq_getElem?_getD, List.getElem?_eq_getElem h]
 exact List.getElem_mem h
set_option maxRecDepth 1000000 in
set_option maxHeartbeats 4000000 in
theorem rings_calls (A : Option Addr) (c : Nat) (ts : List S69) (w : World) (hl : k69.C w A ts.length ts) (hc : ts.length ≤ c) (hn : ts.length ≤ 256) (hL : ∀ x ∈ ts, 0 ≤ x.f3 ∧ x.f3 ≤ 255) :
  Calls Try.prog 88 #[.slice A ts.length c] w fun e w' => ∃ v, e = .returned v ∧ k88.R 88 w' w.heap.size (fun _ => True) v (ringsOf ts) ∧ Below w.heap.size w w' := by
 have HL := Aside0.mk hl
 have HLM := Aside0.mk hL
 have HN := Aside0.mk hn
 have HB := Aside0.mk (Below.refl w.heap.size w)
 clear hl hL
 go_enter Try.func88, Try.ntmps88
 go_wp2_with fail
 go_loopg [3, 4] 64 (fun g u i wr => ∃ (m : Nat) (p : Int), m ≤ 64 ∧ g = 64 - m ∧ i = .int .i64 p ∧ Aside0 (p = 63 - m) ∧ Aside0 (k88.R 88 wr w.heap.size (fun _ => True) u (ringsUp ts m)) ∧ Aside0 (Below w.heap.size w wr))
 case atStart => exact ⟨0, 63, by omega, rfl, rfl, ⟨rfl⟩, ⟨Kd.R_nil _ _ _ _ _⟩, HB⟩
 case round =>
  clear HB
  obtain ⟨m, p, hm, rfl, rfl, HP, HO, HB⟩ := hrel
  have HM := Aside0.mk hm
  have hwp : IntKind.i64.wrap (p - 1) = p - 1 := IntWalk.i64_in _ (by have := HP.out; omega)
  by_cases hlm : m < 64
  ·have hd : decide (0 ≤ p) = true := decide_eq_true (by have := HP.out; omega)
   clear hm
   have HLM2 := Aside0.mk hlm
   go_wp2_with fail
   go_loopg [5, 14] ts.length (fun g s i wr => ∃ (j : Nat) (n : Int), j ≤ ts.length ∧ g = ts.length - j ∧ i = .int .i64 j ∧ s = .int .i64 n ∧ Aside0 (n = sumP (ts.take j) p) ∧ Aside0 (k88.R 88 wr w.heap.size (fun _ => True) u3 (ringsUp ts m)) ∧ Aside0 (Below w.heap.size w wr))
   case atStart => exact ⟨0, 0, by omega, rfl, rfl, rfl, ⟨rfl⟩, HO, HB⟩
   case round =>
    clear HO HB
    obtain ⟨j, n, hj, rfl, rfl, rfl, HS, HO, HB⟩ := hrel
    have hbd := sumP_bd (ts.take j) p (fun x hx => HLM.out x (List.mem_of_mem_take hx))
    rw [← HS.out] at hbd
    have hjl : (ts.take j).length ≤ 256 := by have := HN.out; simp; omega
    by_cases hlj : j < ts.length
    ·have hd2 : decide ((j : Int) < (ts.length : Int)) = true := decide_eq_true (by omega)
     have HLJ := Aside0.mk hlj
     obtain ⟨x, ad, A6, c6, hx, e, HA, l6, g6⟩ := task_at (Kd.C_below HL.out HB.out) j hlj
     subst e
     have HAX := Aside0.mk HA
     have B1 := below_a wr (.cells #[.int .i64 x.f0, .int .i64 x.f1, .bool x.f2, .int .i64 x.f3, .int .u32 x.f4, .int .i64 x.f5, .slice A6 x.f6.length c6, .int .u32 x.f7] 69)
     have HX := Aside0.mk (At69.made wr x A6 c6)
     have HST := Aside0.mk (sumP_step ts j p hlj)
     rw [hx, ← HS.out] at HST
     have hxb := HLM.out _ (getD_mem (d := z69) hlj)
     rw [hx] at hxb
     have hwn : IntKind.i64.wrap (n + x.f3) = n + x.f3 := IntWalk.i64_in _ (by omega)
     clear hx HA l6 g6 hbd hjl hxb
     go_upto_region 9 with (first | ((with_reducible refine gate_dst (N := 17) rfl ?_); refine load69 HAX.out rfl (.tmp 16) rfl rfl ?_) | (refine store69 (by rfl) #[.int .i64 x.f0, .int .i64 x.f1, .bool x.f2, .int .i64 x.f3, .int .u32 x.f4, .int .i64 x.f5, .slice A6 x.f6.length c6, .int .u32 x.f7] (by rfl) (by simp [Value.oneCell']) (by rfl) (.tmp 7) (.tmp 17) (by rfl) (by rfl) (by rfl) (by rfl) ?_))
     replace HB := Aside0.mk (HB.out.trans (B1.mono HB.out.size))
     replace HO := Aside0.mk (Kd.R_below HO.out B1)
     clear B1 HAX
     generalize wr.alloc (.cells #[.int .i64 x.f0, .int .i64 x.f1, .bool x.f2, .int .i64 x.f3, .int .u32 x.f4, .int .i64 x.f5, .slice A6 x.f6.length c6, .int .u32 x.f7] 69) = w2 at *
     generalize wr.heap.size = P at *
     have x0 := HX.out.g0
     have x3 := HX.out.g3
     by_cases he : x.f0 = p
     ·have b0 : (x.f0 == p) = true := by rw [beq_iff_eq]; exact he
      have HT := Aside0.mk (show n + x.f3 = sumP (ts.take (j + 1)) p from by rw [HST.out, if_pos he])
      clear he HST HS
      go_wp2_with fail
      go_roundg (ts.length - (j + 1))
      case measure => have := HLJ.out; omega
      case rel => exact ⟨j + 1, _, HLJ.out, rfl, by go_num, rfl, HT, HO, HB⟩
     ·have b0 : (x.f0 == p) = false := by rw [beq_eq_false_iff_ne]; exact he
      have HT := Aside0.mk (show n = sumP (ts.take (j + 1)) p from by rw [HST.out, if_neg he]; omega)
      clear he HST HS
      go_wp2_with fail
      go_roundg (ts.length - (j + 1))
      case measure => have := HLJ.out; omega
      case rel => exact ⟨j + 1, _, HLJ.out, rfl, by go_num, rfl, HT, HO, HB⟩
    ·have hd2 : decide ((j : Int) < (ts.length : Int)) = false := decide_eq_false (by omega)
     have HS2 := Aside0.mk (show n = sumP ts (63 - m) from by rw [HS.out, List.take_of_length_le (by omega), HP.out])
     have HRL := Aside0.mk (ringsUp_len ts m)
     clear HS hjl hbd
     by_cases hp : 0 < n
     ·have b1 : decide (0 < n) = true := decide_eq_true hp
      have HT := Aside0.mk (show ringsUp ts (m + 1) = ringsUp ts m ++ [⟨p, n⟩] from by rw [HP.out]; show ringsUp ts m ++ _ = _; rw [← HS2.out, if_pos hp])
      clear hp HS2
      go_wp2_with ((with_reducible refine gate_builtin (b := .append) (xs := #[.tmp 29, .tmp 33]) rfl ?_); at_builtin; refine Kd.R_append k88 (w0 := w) w.heap.size rfl (.tmp 29) (.tmp 33) 26 88 (.agg #[(.int .i64 0), (.int .i64 0)]) 16 rfl Try.underlying26 info88 rfl (by decide) (by omega) u3 (ringsUp ts m) (⟨p, n⟩ : S88) [.int .i64 p, .int .i64 n] (fun _ => True) (fun _ => False) rfl rfl (k88_mkM _ _ _ (⟨p, n⟩ : S88)) (fun _ hk => hk.elim) (fun _ _ => trivial) HO.out HB.out HB.out.size ?aL ?_; (case aL => have := HRL.out; have := HM.out; omega); intro v3 w3 HR3 HB3 HG3 HA3; rw [← HT.out] at HR3; have HO3 := Aside0.mk HR3; have HB4 := Aside0.mk HB3; clear HR3 HB3 HG3 HA3)
      go_roundg (64 - (m + 1))
      case measure => have := HLM2.out; omega
      case rel => exact ⟨m + 1, p - 1, HLM2.out, rfl, rfl, ⟨by have := HP.out; omega⟩, HO3, HB4⟩
     ·have b1 : decide (0 < n) = false := decide_eq_false hp
      have HT := Aside0.mk (show ringsUp ts (m + 1) = ringsUp ts m from by show ringsUp ts m ++ _ = _; rw [← HS2.out, if_neg hp, List.append_nil])
      clear hp HS2
      rw [← HT.out] at HO
      go_wp2_with fail
      go_roundg (64 - (m + 1))
      case measure => have := HLM2.out; omega
      case rel => exact ⟨m + 1, p - 1, HLM2.out, rfl, rfl, ⟨by have := HP.out; omega⟩, HO, HB⟩
  ·have hd : decide (0 ≤ p) = false := decide_eq_false (by have := HP.out; omega)
   obtain rfl : m = 64 := by omega
   clear hm hlm
   go_wp2_with fail
   go_ret
   exact ⟨_, rfl, HO.out, HB.out⟩
end Go.Proofs.Ytbgcemijihpakaa.XA
end
