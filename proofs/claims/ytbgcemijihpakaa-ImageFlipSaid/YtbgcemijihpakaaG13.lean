/- package table's clocks. -/
import Derived.Test.YtbgcemijihpakaaG12
section
namespace Go.Proofs.Ytbgcemijihpakaa.XA
set_option linter.unusedVariables false
set_option linter.unusedSimpArgs false
open Go.RowKit Go.WideMaps Go.Maps Go.Proofs.YtbgcemijihpakaaW.PrintWords Go.Proofs.YtbgcemijihpakaaW.PrintLast Go.Proofs.YtbgcemijihpakaaW.PrintMore
def ctrRow (x : S95) : Bool := tickB x.f0 && tickB x.f1 && tickB x.f2 && decide (x.f2 ≤ x.f0)
def noneB (x : S102) : Bool := x.f3 == 0 && x.f4 == 0
def rightB (c : S95) (x : S102) : Bool := decide (1 ≤ x.f3) && decide (x.f3 ≤ c.f0) && (x.f4 == 0 || decide (c.f2 ≤ x.f4) && decide (x.f4 ≤ c.f0))
def timeB (c : S95) (x : S102) : Bool := if x.f2 = 0 then noneB x else rightB c x
def almA (t : S33) (x : S102) : Bool := decide (0 ≤ x.f0) && decide (x.f0 < t.f5.length) && actB t.f2 x.f1 1 3 && x.f2 / 2 ^ min t.f1.toNat 32 == 0
def almRow (t : S33) (x : S102) : Bool := almA t x && timeB (t.f5.getD x.f0.toNat z95) x
def clocksB (t : S33) : Bool := (List.range t.f5.length).all (fun i => ctrRow (t.f5.getD i z95)) && (List.range t.f6.length).all (fun i => almRow t (t.f6.getD i z102))
theorem At102.act {w : World} {P : Nat} {t : S102} (h : At102 w ⟨P, 0, none⟩ t) : At100 w ⟨P, 1, none⟩ t.f1 := ⟨fun j v hj => by
 have e : (⟨P, 1, none⟩ : Addr).add j = (⟨P, 0, none⟩ : Addr).add (j + 1) := by unfold Addr.add; simp [Nat.add_comm]
 rw [e]
 refine h.cells (j + 1) v ?_
 match j, hj with
 | 0, hj => exact hj
 | 1, hj => exact hj
 | 2, hj => exact hj
 | j + 3, hj => simp at hj⟩
set_option maxRecDepth 1000000 in
set_option maxHeartbeats 4000000 in
theorem clocks_calls (V : TV) (t : S33) (w : World) (h : Tb w V t) (h1 : 0 ≤ t.f1) :
  Calls Try.prog 25 #[.agg (arr V t)] w fun e w' => e = .returned (.bool (clocksB t)) ∧ Below w.heap.size w w' := by
 have HS := Aside0.mk (At.made h)
 have HB := Aside0.mk (below_a w (.cells (arr V t) 33))
 obtain ⟨m, hm⟩ := Int.eq_ofNat_of_zero_le h1
 have HM := Aside0.mk hm
 clear h hm h1
 unfold arr at *
 go_enter Try.func25, Try.ntmps25
 go_upto_region 1 with fail
 generalize w.alloc (.cells #[.int .i64 t.f0, .int .i64 t.f1, .slice V.a2 t.f2.length V.k2, .slice V.a3 t.f3.length V.k3, .slice V.a4 t.f4.length V.k4, .slice V.a5 t.f5.length V.k5, .slice V.a6 t.f6.length V.k6, .slice V.a7 t.f7.length V.k7, .slice V.a8 t.f8.length V.k8, .int .i64 t.f9, .int .i64 t.f10, .int .i64 t.f11, .int .i64 t.f12] 33) = w1 at *
 generalize hW : w.heap.size = B at HS ⊢
 have HW := Aside0.mk hW
 clear hW
 have q5 := HS.out.q5
 go_wp2_with fail
 clear q5
 generalize hA : V.a5 = A5
 have HV := Aside0.mk hA
 clear hA
 go_loopg [13] t.f5.length (fun g i wr => ∃ k : Nat, k ≤ t.f5.length ∧ g = t.f5.length - k ∧ i = .int .i64 k ∧ Aside0 (At wr B V t) ∧ Aside0 (Below w.heap.size w wr) ∧ Aside0 (∀ j, j < k → ctrRow (t.f5.getD j z95) = true))
 case atStart => exact ⟨0, by omega, rfl, rfl, HS, HB, ⟨fun j hj => by omega⟩⟩
 case round =>
  clear HS HB
  obtain ⟨k, hk, rfl, rfl, HS, HB, HR⟩ := hrel
  have hbd := HS.out.tb.bd.ct
  by_cases hlt : k < t.f5.length
  ·have hd : decide ((k : Int) < (t.f5.length : Int)) = true := decide_eq_true (by omega)
   obtain ⟨x, ad, hx, e, HA⟩ := ctr_at HS.out.tb.ct k hlt
   obtain rfl : A5 = some ad := by rw [← HV.out]; exact e
   have HAX := Aside0.mk HA
   have HN2 := Aside0.mk hx
   have B1 := below_a wr (.cells #[.int .u32 x.f0, .int .u32 x.f1, .int .u32 x.f2] 95)
   have HX := Aside0.mk (At95.made wr x)
   have HLT := Aside0.mk hlt
   clear hx e HA
   go_upto_region 4 with (first | ((with_reducible refine gate_dst (N := 16) rfl ?_); refine load95 HAX.out rfl (.tmp 15) rfl rfl ?_) | (refine store95 (by rfl) #[.int .u32 x.f0, .int .u32 x.f1, .int .u32 x.f2] (by rfl) (by simp [Value.oneCell']) (by rfl) (.tmp 4) (.tmp 16) (by rfl) (by rfl) (by rfl) (by rfl) ?_))
   replace HB := Aside0.mk (HB.out.trans (B1.mono HB.out.size))
   replace HS := Aside0.mk (HS.out.below B1)
   clear B1 HAX
   generalize wr.alloc (.cells #[.int .u32 x.f0, .int .u32 x.f1, .int .u32 x.f2] 95) = w2 at *
   generalize wr.heap.size = P at *
   have HE := Aside0.mk (show ctrRow x = (tickB x.f0 && tickB x.f1 && tickB x.f2 && decide (x.f2 ≤ x.f0)) from rfl)
   go_cut [39] (fun s wx => s = .bool (!ctrRow x) ∧ wx = w2)
   case first =>
    have x0 := HX.out.g0
    have x1 := HX.out.g1
    have x2 := HX.out.g2
    rcases h1 : tickB x.f0 with _ | _
    ·have P1 := Aside0.mk h1
     have b1 := h1
     clear h1
     have HK := Aside0.mk (show ctrRow x = false from by have h1 := P1.out; rw [HE.out]; simp [eq_self, h1] <;> omega)
     go_wp2_with (go_at_call 89; refine (tick_calls _ _).mono ?_; rintro e w_ ⟨rfl, rfl⟩)
     go_meet
     exact ⟨by rw [HK.out] <;> rfl, rfl⟩
    ·have P1 := Aside0.mk h1
     have b1 := h1
     clear h1
     rcases h2 : tickB x.f1 with _ | _
     ·have P2 := Aside0.mk h2
      have b2 := h2
      clear h2
      have HK := Aside0.mk (show ctrRow x = false from by have h1 := P1.out; have h2 := P2.out; rw [HE.out]; simp [eq_self, h1, h2] <;> omega)
      go_wp2_with (go_at_call 89; refine (tick_calls _ _).mono ?_; rintro e w_ ⟨rfl, rfl⟩)
      go_meet
      exact ⟨by rw [HK.out] <;> rfl, rfl⟩
     ·have P2 := Aside0.mk h2
      have b2 := h2
      clear h2
      rcases h3 : tickB x.f2 with _ | _
      ·have P3 := Aside0.mk h3
       have b3 := h3
       clear h3
       have HK := Aside0.mk (show ctrRow x = false from by have h1 := P1.out; have h2 := P2.out; have h3 := P3.out; rw [HE.out]; simp [eq_self, h1, h2, h3] <;> omega)
       go_wp2_with (go_at_call 89; refine (tick_calls _ _).mono ?_; rintro e w_ ⟨rfl, rfl⟩)
       go_meet
       exact ⟨by rw [HK.out] <;> rfl, rfl⟩
      ·have P3 := Aside0.mk h3
       have b3 := h3
       clear h3
       by_cases h4 : x.f0 < x.f2
       ·have P4 := Aside0.mk h4
        have b4 : decide (x.f0 < x.f2) = true := decide_eq_true h4
        clear h4
        have HK := Aside0.mk (show ctrRow x = false from by have h1 := P1.out; have h2 := P2.out; have h3 := P3.out; have h4 := P4.out; rw [HE.out]; simp [eq_self, h1, h2, h3, h4] <;> omega)
        go_wp2_with (go_at_call 89; refine (tick_calls _ _).mono ?_; rintro e w_ ⟨rfl, rfl⟩)
        go_meet
        exact ⟨by rw [HK.out] <;> rfl, rfl⟩
       ·have P4 := Aside0.mk h4
        have b4 : decide (x.f0 < x.f2) = false := decide_eq_false h4
        clear h4
        have HK := Aside0.mk (show ctrRow x = true from by have h1 := P1.out; have h2 := P2.out; have h3 := P3.out; have h4 := P4.out; rw [HE.out]; simp [eq_self, h1, h2, h3, h4] <;> omega)
        go_wp2_with (go_at_call 89; refine (tick_calls _ _).mono ?_; rintro e w_ ⟨rfl, rfl⟩)
        go_meet
        exact ⟨by rw [HK.out] <;> rfl, rfl⟩
   case rest =>
    obtain ⟨rfl, rfl⟩ := hcut
    rcases hrow : ctrRow x with _ | _
    ·have HK := Aside0.mk (show clocksB t = false from by unfold clocksB; rw [all_no HLT.out (by rw [HN2.out, hrow])]; rfl)
     clear hrow HR
     go_wp2_with fail
     go_ret
     exact ⟨ret_b HK.out, HB.out⟩
    ·have HT := Aside0.mk (upto_next HR.out (show ctrRow (t.f5.getD k z95) = true from by rw [HN2.out, hrow]))
     clear hrow HR
     go_wp2_with fail
     go_roundg (t.f5.length - (k + 1))
     case measure => have := HLT.out; omega
     case rel => exact ⟨k + 1, HLT.out, rfl, by go_num, HS, HB, HT⟩
  ·have hd : decide ((k : Int) < (t.f5.length : Int)) = false := decide_eq_false (by omega)
   have HC := Aside0.mk (show clocksB t = (List.range t.f6.length).all (fun i => almRow t (t.f6.getD i z102)) from by unfold clocksB; rw [all_yes (fun i hi => HR.out i (by omega)), Bool.true_and])
   clear HR
   have q6 := HS.out.q6
   go_wp2_with fail
   clear q6
   generalize hA : V.a6 = A6
   have HV6 := Aside0.mk hA
   clear hA
   go_loopg [44] t.f6.length (fun g i wr => ∃ k : Nat, k ≤ t.f6.length ∧ g = t.f6.length - k ∧ i = .int .i64 k ∧ Aside0 (At wr B V t) ∧ Aside0 (Below w.heap.size w wr) ∧ Aside0 (∀ j, j < k → almRow t (t.f6.getD j z102) = true))
   case atStart => exact ⟨0, by omega, rfl, rfl, HS, HB, ⟨fun j hj => by omega⟩⟩
   case round =>
    clear HS HB
    obtain ⟨k, hk, rfl, rfl, HS, HB, HR⟩ := hrel
    have hbd := HS.out.tb.bd.al
    by_cases hlt : k < t.f6.length
    ·have hd : decide ((k : Int) < (t.f6.length : Int)) = true := decide_eq_true (by omega)
     obtain ⟨x, ad, hx, e, HA⟩ := alm_at HS.out.tb.al k hlt
     obtain rfl : A6 = some ad := by rw [← HV6.out]; exact e
     have HAX := Aside0.mk HA
     have HN2 := Aside0.mk hx
     have B1 := below_a wr (.cells #[.int .i64 x.f0, .int .i64 x.f1.f0, .int .i64 x.f1.f1, .int .u32 x.f1.f2, .int .u32 x.f2, .int .u32 x.f3, .int .u32 x.f4] 102)
     have HX := Aside0.mk (At102.made wr x)
     have HLT := Aside0.mk hlt
     clear hx e HA
     go_upto_region 10 with (first | ((with_reducible refine gate_dst (N := 47) rfl ?_); refine load102 HAX.out rfl (.tmp 46) rfl rfl ?_) | (refine store102 (by rfl) #[.int .i64 x.f0, .int .i64 x.f1.f0, .int .i64 x.f1.f1, .int .u32 x.f1.f2, .int .u32 x.f2, .int .u32 x.f3, .int .u32 x.f4] (by rfl) (by simp [Value.oneCell']) (by rfl) (.tmp 6) (.tmp 47) (by rfl) (by rfl) (by rfl) (by rfl) ?_))
     replace HB := Aside0.mk (HB.out.trans (B1.mono HB.out.size))
     replace HS := Aside0.mk (HS.out.below B1)
     clear B1 HAX
     generalize wr.alloc (.cells #[.int .i64 x.f0, .int .i64 x.f1.f0, .int .i64 x.f1.f1, .int .u32 x.f1.f2, .int .u32 x.f2, .int .u32 x.f3, .int .u32 x.f4] 102) = w2 at *
     generalize wr.heap.size = P at *
     have HE := Aside0.mk (show almA t x = (decide (0 ≤ x.f0) && decide (x.f0 < t.f5.length) && actB t.f2 x.f1 1 3 && x.f2 / 2 ^ min m 32 == 0) from by unfold almA; rw [HM.out, Int.toNat_natCast])
     go_cut [73] (fun s wx => s = .bool (!almA t x) ∧ Aside0 (At wx B V t) ∧ Aside0 (At102 wx ⟨P, 0, none⟩ x) ∧ Aside0 (Below w.heap.size w wx))
     case first =>
      have x0 := HX.out.g0
      have q5 := HS.out.q5
      have HXA := Aside0.mk HX.out.act
      by_cases h1 : x.f0 < 0
      ·have P1 := Aside0.mk h1
       have b1 : decide (x.f0 < 0) = true := decide_eq_true h1
       clear h1
       have HK := Aside0.mk (show almA t x = false from by have h1 := P1.out; rw [HE.out]; simp [eq_self, h1] <;> omega)
       go_wp2_with fail
       go_meet
       exact ⟨by rw [HK.out] <;> rfl, HS, HX, HB⟩
      ·have P1 := Aside0.mk h1
       have b1 : decide (x.f0 < 0) = false := decide_eq_false h1
       clear h1
       obtain ⟨q, hq⟩ := Int.eq_ofNat_of_zero_le (show 0 ≤ x.f0 by have h1 := P1.out; omega)
       rw [hq] at x0 HE
       have HQ := Aside0.mk hq
       clear hq
       by_cases h2 : t.f5.length ≤ q
       ·have P2 := Aside0.mk h2
        have b2 : decide (t.f5.length ≤ q) = true := decide_eq_true h2
        clear h2
        have HK := Aside0.mk (show almA t x = false from by have h1 := P1.out; have h2 := P2.out; rw [HE.out]; simp [eq_self, h1, h2] <;> omega)
        go_wp2_with fail
        go_meet
        exact ⟨by rw [HK.out] <;> rfl, HS, HX, HB⟩
       ·have P2 := Aside0.mk h2
        have b2 : decide (t.f5.length ≤ q) = false := decide_eq_false h2
        clear h2
        go_wp2_with (first | ((with_reducible refine gate_dst (N := 60) rfl ?_); (refine gate_guard (by rfl) ?_; dsimp only); refine load33 HS.out rfl (.tmp 1) rfl rfl ?_) | ((with_reducible refine gate_dst (N := 62) rfl ?_); (refine gate_guard (by rfl) ?_; dsimp only); refine load100 HXA.out rfl (.tmp 61) rfl rfl ?_))
        have hx := act_calls V t x.f1 1 3 w2 HS.out.tb
        unfold arr at hx
        refine hx.mono ?_
        clear hx
        rintro e w3 ⟨rfl, B3⟩
        replace HB := Aside0.mk (HB.out.trans (B3.mono HB.out.size))
        replace HS := Aside0.mk (HS.out.below B3)
        replace HX := Aside0.mk (HX.out.below B3)
        have x4 := HX.out.g4
        have q1 := HS.out.q1
        rw [HM.out] at q1
        clear B3 HXA
        rcases h3 : actB t.f2 x.f1 1 3 with _ | _
        ·have P3 := Aside0.mk h3
         have b3 := h3
         clear h3
         have HK := Aside0.mk (show almA t x = false from by have h1 := P1.out; have h2 := P2.out; have h3 := P3.out; rw [HE.out]; simp [eq_self, h1, h2, h3] <;> omega)
         go_wp2_with fail
         go_meet
         exact ⟨by rw [HK.out] <;> rfl, HS, HX, HB⟩
        ·have P3 := Aside0.mk h3
         have b3 := h3
         clear h3
         by_cases h4 : x.f2 / 2 ^ min m 32 = 0
         ·have P4 := Aside0.mk h4
          have b4 : (x.f2 / 2 ^ min m 32 == 0) = true := by rw [beq_iff_eq]; exact h4
          have b4x : (x.f2 / 2 ^ min m 32 != 0) = false := by rw [bne_eq_false_iff_eq]; exact h4
          clear h4
          have HK := Aside0.mk (show almA t x = true from by have h1 := P1.out; have h2 := P2.out; have h3 := P3.out; have h4 := P4.out; rw [HE.out]; simp [eq_self, h1, h2, h3, h4] <;> omega)
          go_wp2_with fail
          go_meet
          exact ⟨by rw [HK.out] <;> rfl, HS, HX, HB⟩
         ·have P4 := Aside0.mk h4
          have b4 : (x.f2 / 2 ^ min m 32 == 0) = false := by rw [beq_eq_false_iff_ne]; exact h4
          have b4x : (x.f2 / 2 ^ min m 32 != 0) = true := by rw [bne_iff_ne]; exact h4
          clear h4
          have HK := Aside0.mk (show almA t x = false from by have h1 := P1.out; have h2 := P2.out; have h3 := P3.out; have h4 := P4.out; rw [HE.out]; simp [eq_self, h1, h2, h3, h4] <;> omega)
          go_wp2_with fail
          go_meet
          exact ⟨by rw [HK.out] <;> rfl, HS, HX, HB⟩
     case rest =>
      clear HS HX HB
      obtain ⟨rfl, HS, HX, HB⟩ := hcut
      rcases hrow : almA t x with _ | _
      ·have HK := Aside0.mk (show clocksB t = false from by rw [HC.out, all_no HLT.out (by unfold almRow; rw [HN2.out, hrow]; rfl)])
       clear hrow HR
       go_wp2_with fail
       go_ret
       exact ⟨ret_b HK.out, HB.out⟩
      ·have HROW := Aside0.mk hrow
       have h01 : 0 ≤ x.f0 ∧ x.f0 < t.f5.length := by
        rw [HE.out] at hrow
        simp only [Bool.and_eq_true, decide_eq_true_eq] at hrow
        exact hrow.1.1
       obtain ⟨q, hq⟩ := Int.eq_ofNat_of_zero_le h01.1
       obtain ⟨c, ad2, hc, e, HA⟩ := ctr_at HS.out.tb.ct q (by have := h01.2; omega)
       have HCN := Aside0.mk (show t.f5.getD x.f0.toNat z95 = c from by rw [hq, Int.toNat_natCast]; exact hc)
       have hq2 : q < t.f5.length := by have := h01.2; omega
       have HAX := Aside0.mk HA
       have x0 := HX.out.g0
       rw [hq] at x0
       have q5 := HS.out.q5
       rw [e] at q5
       have B1 := below_a wc (.cells #[.int .u32 c.f0, .int .u32 c.f1, .int .u32 c.f2] 95)
       have HCX := Aside0.mk (At95.made wc c)
       clear hrow h01 hq hc e HA HE
       go_upto_region 13 with (first | ((with_reducible refine gate_dst (N := 79) rfl ?_); refine load95 HAX.out rfl (.tmp 78) rfl rfl ?_) | (refine store95 (by rfl) #[.int .u32 c.f0, .int .u32 c.f1, .int .u32 c.f2] (by rfl) (by simp [Value.oneCell']) (by rfl) (.tmp 7) (.tmp 79) (by rfl) (by rfl) (by rfl) (by rfl) ?_))
       clear x0 q5
       replace HB := Aside0.mk (HB.out.trans (B1.mono HB.out.size))
       replace HS := Aside0.mk (HS.out.below B1)
       replace HX := Aside0.mk (HX.out.below B1)
       clear B1 HAX hq2
       generalize wc.alloc (.cells #[.int .u32 c.f0, .int .u32 c.f1, .int .u32 c.f2] 95) = w4 at *
       generalize wc.heap.size = P2 at *
       have x2 := HX.out.g4
       have x3 := HX.out.g5
       have x4 := HX.out.g6
       have c0 := HCX.out.g0
       have c2 := HCX.out.g2
       go_cut [8] (fun s wx => s = .bool (noneB x) ∧ wx = w4)
       case first =>
        by_cases h1 : x.f3 = 0
        ·have P1 := Aside0.mk h1
         have b1 : (x.f3 == 0) = true := by rw [beq_iff_eq]; exact h1
         have b1x : (x.f3 != 0) = false := by rw [bne_eq_false_iff_eq]; exact h1
         clear h1
         by_cases h2 : x.f4 = 0
         ·have P2 := Aside0.mk h2
          have b2 : (x.f4 == 0) = true := by rw [beq_iff_eq]; exact h2
          have b2x : (x.f4 != 0) = false := by rw [bne_eq_false_iff_eq]; exact h2
          clear h2
          have HK := Aside0.mk (show noneB x = true from by have h1 := P1.out; have h2 := P2.out; unfold noneB; simp [eq_self, h1, h2] <;> omega)
          go_wp2_with fail
          go_meet
          exact ⟨by rw [HK.out], rfl⟩
         ·have P2 := Aside0.mk h2
          have b2 : (x.f4 == 0) = false := by rw [beq_eq_false_iff_ne]; exact h2
          have b2x : (x.f4 != 0) = true := by rw [bne_iff_ne]; exact h2
          clear h2
          have HK := Aside0.mk (show noneB x = false from by have h1 := P1.out; have h2 := P2.out; unfold noneB; simp [eq_self, h1, h2] <;> omega)
          go_wp2_with fail
          go_meet
          exact ⟨by rw [HK.out], rfl⟩
        ·have P1 := Aside0.mk h1
         have b1 : (x.f3 == 0) = false := by rw [beq_eq_false_iff_ne]; exact h1
         have b1x : (x.f3 != 0) = true := by rw [bne_iff_ne]; exact h1
         clear h1
         have HK := Aside0.mk (show noneB x = false from by have h1 := P1.out; unfold noneB; simp [eq_self, h1] <;> omega)
         go_wp2_with fail
         go_meet
         exact ⟨by rw [HK.out], rfl⟩
       case rest =>
        obtain ⟨rfl, rfl⟩ := hcut
        go_upto_region 14 with fail
        go_cut [9] (fun s wx => s = .bool (rightB c x) ∧ wx = wc)
        case first =>
         by_cases h1 : 1 ≤ x.f3
         ·have P1 := Aside0.mk h1
          have b1 : decide (1 ≤ x.f3) = true := decide_eq_true h1
          clear h1
          by_cases h2 : x.f3 ≤ c.f0
          ·have P2 := Aside0.mk h2
           have b2 : decide (x.f3 ≤ c.f0) = true := decide_eq_true h2
           clear h2
           by_cases h3 : x.f4 = 0
           ·have P3 := Aside0.mk h3
            have b3 : (x.f4 == 0) = true := by rw [beq_iff_eq]; exact h3
            have b3x : (x.f4 != 0) = false := by rw [bne_eq_false_iff_eq]; exact h3
            clear h3
            have HK := Aside0.mk (show rightB c x = true from by have h1 := P1.out; have h2 := P2.out; have h3 := P3.out; unfold rightB; simp [eq_self, h1, h2, h3] <;> omega)
            go_wp2_with fail
            go_meet
            exact ⟨by rw [HK.out], rfl⟩
           ·have P3 := Aside0.mk h3
            have b3 : (x.f4 == 0) = false := by rw [beq_eq_false_iff_ne]; exact h3
            have b3x : (x.f4 != 0) = true := by rw [bne_iff_ne]; exact h3
            clear h3
            by_cases h4 : c.f2 ≤ x.f4
            ·have P4 := Aside0.mk h4
             have b4 : decide (c.f2 ≤ x.f4) = true := decide_eq_true h4
             clear h4
             by_cases h5 : x.f4 ≤ c.f0
             ·have P5 := Aside0.mk h5
              have b5 : decide (x.f4 ≤ c.f0) = true := decide_eq_true h5
              clear h5
              have HK := Aside0.mk (show rightB c x = true from by have h1 := P1.out; have h2 := P2.out; have h3 := P3.out; have h4 := P4.out; have h5 := P5.out; unfold rightB; simp [eq_self, h1, h2, h3, h4, h5] <;> omega)
              go_wp2_with fail
              go_meet
              exact ⟨by rw [HK.out], rfl⟩
             ·have P5 := Aside0.mk h5
              have b5 : decide (x.f4 ≤ c.f0) = false := decide_eq_false h5
              clear h5
              have HK := Aside0.mk (show rightB c x = false from by have h1 := P1.out; have h2 := P2.out; have h3 := P3.out; have h4 := P4.out; have h5 := P5.out; unfold rightB; simp [eq_self, h1, h2, h3, h4, h5] <;> omega)
              go_wp2_with fail
              go_meet
              exact ⟨by rw [HK.out], rfl⟩
            ·have P4 := Aside0.mk h4
             have b4 : decide (c.f2 ≤ x.f4) = false := decide_eq_false h4
             clear h4
             have HK := Aside0.mk (show rightB c x = false from by have h1 := P1.out; have h2 := P2.out; have h3 := P3.out; have h4 := P4.out; unfold rightB; simp [eq_self, h1, h2, h3, h4] <;> omega)
             go_wp2_with fail
             go_meet
             exact ⟨by rw [HK.out], rfl⟩
          ·have P2 := Aside0.mk h2
           have b2 : decide (x.f3 ≤ c.f0) = false := decide_eq_false h2
           clear h2
           have HK := Aside0.mk (show rightB c x = false from by have h1 := P1.out; have h2 := P2.out; unfold rightB; simp [eq_self, h1, h2] <;> omega)
           go_wp2_with fail
           go_meet
           exact ⟨by rw [HK.out], rfl⟩
         ·have P1 := Aside0.mk h1
          have b1 : decide (1 ≤ x.f3) = false := decide_eq_false h1
          clear h1
          have HK := Aside0.mk (show rightB c x = false from by have h1 := P1.out; unfold rightB; simp [eq_self, h1] <;> omega)
          go_wp2_with fail
          go_meet
          exact ⟨by rw [HK.out], rfl⟩
        case rest =>
         obtain ⟨rfl, rfl⟩ := hcut
         go_upto_region 15 with fail
         go_cut [8, 9, 132] (fun s8 s9 s wx => s = .bool (!timeB c x) ∧ wx = wc)
         case first =>
          by_cases h1 : x.f2 = 0
          ·have P1 := Aside0.mk h1
           have b1 : (x.f2 == 0) = true := by rw [beq_iff_eq]; exact h1
           have b1x : (x.f2 != 0) = false := by rw [bne_eq_false_iff_eq]; exact h1
           clear h1
           rcases h2 : noneB x with _ | _
           ·have P2 := Aside0.mk h2
            have b2 := h2
            clear h2
            have HK := Aside0.mk (show timeB c x = false from by have h1 := P1.out; have h2 := P2.out; unfold timeB; simp [eq_self, h1, h2])
            go_wp2_with fail
            go_meet
            exact ⟨by rw [HK.out] <;> rfl, rfl⟩
           ·have P2 := Aside0.mk h2
            have b2 := h2
            clear h2
            have HK := Aside0.mk (show timeB c x = true from by have h1 := P1.out; have h2 := P2.out; unfold timeB; simp [eq_self, h1, h2])
            go_wp2_with fail
            go_meet
            exact ⟨by rw [HK.out] <;> rfl, rfl⟩
          ·have P1 := Aside0.mk h1
           have b1 : (x.f2 == 0) = false := by rw [beq_eq_false_iff_ne]; exact h1
           have b1x : (x.f2 != 0) = true := by rw [bne_iff_ne]; exact h1
           clear h1
           rcases h3 : rightB c x with _ | _
           ·have P3 := Aside0.mk h3
            have b3 := h3
            clear h3
            have HK := Aside0.mk (show timeB c x = false from by have h1 := P1.out; have h3 := P3.out; unfold timeB; simp [eq_self, h1, h3])
            go_wp2_with fail
            go_meet
            exact ⟨by rw [HK.out] <;> rfl, rfl⟩
           ·have P3 := Aside0.mk h3
            have b3 := h3
            clear h3
            have HK := Aside0.mk (show timeB c x = true from by have h1 := P1.out; have h3 := P3.out; unfold timeB; simp [eq_self, h1, h3])
            go_wp2_with fail
            go_meet
            exact ⟨by rw [HK.out] <;> rfl, rfl⟩
         case rest =>
          obtain ⟨rfl, rfl⟩ := hcut
          rcases hrow : timeB c x with _ | _
          ·have HK := Aside0.mk (show clocksB t = false from by rw [HC.out, all_no HLT.out (by unfold almRow; rw [HN2.out, HCN.out, hrow, Bool.and_false])])
           clear hrow HR
           go_wp2_with fail
           go_ret
           exact ⟨ret_b HK.out, HB.out⟩
          ·have HT := Aside0.mk (upto_next HR.out (show almRow t (t.f6.getD k z102) = true from by unfold almRow; rw [HN2.out, HCN.out, HROW.out, hrow]; rfl))
           clear hrow HR
           go_wp2_with fail
           go_roundg (t.f6.length - (k + 1))
           case measure => have := HLT.out; omega
           case rel => exact ⟨k + 1, HLT.out, rfl, by go_num, HS, HB, HT⟩
    ·have hd : decide ((k : Int) < (t.f6.length : Int)) = false := decide_eq_false (by omega)
     have HT := Aside0.mk (show clocksB t = true from by rw [HC.out]; exact all_yes (fun i hi => HR.out i (by omega)))
     clear HR
     go_wp2_with fail
     go_ret
     exact ⟨ret_b HT.out, HB.out⟩
end Go.Proofs.Ytbgcemijihpakaa.XA
end
section
namespace Go.Proofs.Ytbgcemijihpakaa.XA
set_option linter.unusedVariables false
set_option linter.unusedSimpArgs false
open Go.RowKit Go.WideMaps Go.Maps Go.Proofs.YtbgcemijihpakaaW.PrintWords Go.Proofs.YtbgcemijihpakaaW.PrintLast Go.Proofs.YtbgcemijihpakaaW.PrintMore
theorem cell_of {w : World} {B e j : Nat} {cs : Array Value} {u : Value} (h : w.heap[B]? = some (.cells cs e (0, 0))) (hu : cs[j]? = some u) : w.cell? ((⟨B, 0, none⟩ : Addr).add j) = some u := by
 rw [add_z]
 simp [World.cell?, h, hu]
theorem tab_of {α : Type} {d : Kd α} {w : World} {B e : Nat} {cs : List Value} {xs : List α} (h : w.heap[B]? = some (.cells cs.toArray e (0, 0))) (hn : xs.length ≤ 9223372036854775807)
  (hr : ∀ j p, xs[j]? = some p → ∃ c, c.length = d.sz ∧ d.K w p c ∧ ∀ i u, c[i]? = some u → cs[j * d.sz + i]? = some u) : d.C w (some ⟨B, 0, none⟩) xs.length xs :=
 ⟨rfl, hn, fun _ => ⟨_, rfl, fun j p hj => by
  obtain ⟨c, h1, h2, h3⟩ := hr j p hj
  exact ⟨c, h1, h2, fun i u hu => cell_of h (by simpa using h3 i u hu)⟩⟩⟩
theorem nums_of {k : IntKind} {w : World} {B T : Nat} {xs : List Int} (h : w.heap[B]? = some (.cells (xs.map (Value.int k)).toArray T (0, 0))) (hn : xs.length ≤ 9223372036854775807) : (Kd.int k).C w (some ⟨B, 0, none⟩) xs.length xs :=
 tab_of (d := Kd.int k) h hn fun j p hj => ⟨[.int k p], rfl, rfl, fun i u hu => by
  cases i with
  | zero =>
   simp at hu
   subst hu
   show (xs.map (Value.int k))[j * 1 + 0]? = _
   simp [hj]
  | succ i => simp at hu⟩
set_option maxRecDepth 1000000 in
set_option maxHeartbeats 4000000 in
theorem index_calls (A : Option Addr) (c : Nat) (l : List Int) (n : Int) (w : World) (hl : (Kd.int .i64).C w A l.length l) (hc : l.length ≤ c) : Calls Try.prog 93 #[.slice A l.length c, .int .i64 n] w fun e w' => ∃ i : Int, e = .returned (.int .i64 i) ∧ (0 ≤ i ↔ n ∈ l) ∧ w' = w := by
 have HL := Aside0.mk hl
 have hlen := hl.2.1
 clear hl
 go_enter Try.func93, Try.ntmps93
 go_wp2_with fail
 go_loop [8] (fun i => ∃ k : Nat, k ≤ l.length ∧ i = .int .i64 k ∧ Aside0 (∀ j, j < k → l.getD j 0 ≠ n)) (fun i => l.length - (intOf i).toNat)
 case atStart => exact ⟨0, by omega, rfl, ⟨fun j hj => by omega⟩⟩
 case round =>
  obtain ⟨k, hk, rfl, HR⟩ := hrel
  by_cases hlt : k < l.length
  ·have hd : decide ((k : Int) < (l.length : Int)) = true := decide_eq_true (by omega)
   obtain ⟨ad, rfl, hc0⟩ := (Kd.reads_of_C (d := (0 : Int)) HL.out).2.2 (by omega)
   have hx := hc0 k hlt
   clear hc0
   by_cases he : n = l.getD k 0
   ·have hb : (n == l.getD k 0) = true := by simp [he]
    have HT := Aside0.mk (show n ∈ l from by rw [he]; exact getD_mem hlt)
    clear he HR
    generalize l.getD k 0 = x at *
    go_wp2_with fail
    go_ret
    exact ⟨k, rfl, ⟨fun _ => HT.out, fun _ => by omega⟩, rfl⟩
   ·have hb : (n == l.getD k 0) = false := by rw [beq_eq_false_iff_ne]; exact he
    have HT := Aside0.mk (show ∀ j, j < k + 1 → l.getD j 0 ≠ n from fun j hj => by
     rcases Nat.lt_succ_iff_lt_or_eq.mp hj with h1 | rfl
     ·exact HR.out j h1
     ·exact fun e => he e.symm)
    clear he HR
    generalize l.getD k 0 = x at *
    go_wp2_with fail
    go_round
    case rel => exact ⟨k + 1, by omega, by go_num, HT⟩
    case measure => simp [intOf]; omega
  ·have hd : decide ((k : Int) < (l.length : Int)) = false := decide_eq_false (by omega)
   have HT := Aside0.mk (show ¬ n ∈ l from by
    intro h
    obtain ⟨j, hj, e⟩ := mem_getD (d := (0 : Int)) h
    exact HR.out j (by omega) e)
   clear HR
   go_wp2_with fail
   go_ret
   exact ⟨-1, rfl, ⟨fun h => by omega, fun h => (HT.out h).elim⟩, rfl⟩
theorem contains_calls (A : Option Addr) (c : Nat) (l : List Int) (n : Int) (w : World) (hl : (Kd.int .i64).C w A l.length l) (hc : l.length ≤ c) : Calls Try.prog 91 #[.slice A l.length c, .int .i64 n] w fun e w' => e = .returned (.bool (decide (n ∈ l))) ∧ w' = w := by
 go_enter Try.func91, Try.ntmps91
 have HL := Aside0.mk hl
 clear hl
 go_wp2_with fail
 refine (index_calls A c l n w HL.out hc).mono ?_
 rintro e w' ⟨i, rfl, hi, rfl⟩
 have hd : decide (0 ≤ i) = decide (n ∈ l) := by simp [hi]
 go_wp2_with fail
 go_ret
 exact ⟨by rw [← hd] <;> rfl, rfl⟩
end Go.Proofs.Ytbgcemijihpakaa.XA
end
