/- slices.EqualFunc over tasks and isrs. -/
import Derived.Test.YtbgcemijihpakaaG39
import Derived.Test.YtbgcemijihpakaaG06
section
namespace Go.Proofs.Ytbgcemijihpakaa.XA
set_option linter.unusedVariables false
set_option linter.unusedSimpArgs false
open Go.RowKit Go.WideMaps Go.Maps Go.Proofs.YtbgcemijihpakaaW.PrintWords Go.Proofs.YtbgcemijihpakaaW.PrintLast Go.Proofs.YtbgcemijihpakaaW.PrintMore
set_option maxRecDepth 1000000 in
set_option maxHeartbeats 4000000 in
theorem eqF69_calls (A A2 : Option Addr) (c c2 : Nat) (xs ys : List S69) (w : World) (hx : k69.C w A xs.length xs) (hy : k69.C w A2 ys.length ys) (hc : xs.length ≤ c) (hc2 : ys.length ≤ c2) :
  Calls Try.prog 56 #[.slice A xs.length c, .slice A2 ys.length c2, .func (.func 57) #[] #[]] w fun e w' => e = .returned (.bool (eqL eq69 xs ys)) ∧ Below w.heap.size w w' := by
 have HX := Aside0.mk hx
 have HY := Aside0.mk hy
 have hlx := hx.2.1
 have hlz := hy.2.1
 have HB := Aside0.mk (Below.refl w.heap.size w)
 clear hx hy
 by_cases hl : xs.length = ys.length
 ·have hlb : ((xs.length : Int) != (ys.length : Int)) = false := by rw [bne_eq_false_iff_eq, hl]
  have HL := Aside0.mk hl
  clear hl
  go_enter Try.func56, Try.ntmps56
  go_wp2_with fail
  go_loopg [17] xs.length (fun g i wr => ∃ k : Nat, k ≤ xs.length ∧ g = xs.length - k ∧ i = .int .i64 k ∧ Aside0 (eqL eq69 xs ys = eqL eq69 (xs.drop k) (ys.drop k)) ∧ Aside0 (Below w.heap.size w wr))
  case atStart => exact ⟨0, by omega, rfl, rfl, ⟨rfl⟩, HB⟩
  case round =>
  clear HB
  obtain ⟨k, hk, rfl, rfl, HS, HB⟩ := hrel
  by_cases hlt : k < xs.length
  ·have hd : decide ((k : Int) < (xs.length : Int)) = true := decide_eq_true (by omega)
   have hly : k < ys.length := by have := HL.out; omega
   have HLT := Aside0.mk hlt
   replace HS := Aside0.mk (HS.out.trans (eqL_drop eq69 z69 xs ys k hlt hly))
   obtain ⟨x, ad, A6, c6, hx0, eA, HA0, l6, g6⟩ := task_at (Kd.C_below HX.out HB.out) k hlt
   subst eA
   have HAX := Aside0.mk HA0
   obtain ⟨y, ad2, B6, d6, hy0, eB, HB0, n6, m6⟩ := task_at (Kd.C_below HY.out HB.out) k hly
   subst eB
   rw [hx0, hy0] at HS
   have b1 := below_a wr (.cells #[.int .i64 x.f0, .int .i64 x.f1, .bool x.f2, .int .i64 x.f3, .int .u32 x.f4, .int .i64 x.f5, .slice A6 x.f6.length c6, .int .u32 x.f7] 69)
   have b2 := below_a (wr.alloc (.cells #[.int .i64 x.f0, .int .i64 x.f1, .bool x.f2, .int .i64 x.f3, .int .u32 x.f4, .int .i64 x.f5, .slice A6 x.f6.length c6, .int .u32 x.f7] 69)) (.cells #[.int .i64 y.f0, .int .i64 y.f1, .bool y.f2, .int .i64 y.f3, .int .u32 y.f4, .int .i64 y.f5, .slice B6 y.f6.length d6, .int .u32 y.f7] 69)
   have hsz : (wr.alloc (.cells #[.int .i64 x.f0, .int .i64 x.f1, .bool x.f2, .int .i64 x.f3, .int .u32 x.f4, .int .i64 x.f5, .slice A6 x.f6.length c6, .int .u32 x.f7] 69)).heap.size = wr.heap.size + 1 := by simp
   have HBX := Aside0.mk (HB0.below b1)
   have hb := At69.made (wr.alloc (.cells #[.int .i64 x.f0, .int .i64 x.f1, .bool x.f2, .int .i64 x.f3, .int .u32 x.f4, .int .i64 x.f5, .slice A6 x.f6.length c6, .int .u32 x.f7] 69)) y B6 d6
   rw [hsz] at hb
   have HEX := Aside0.mk ((At69.made wr x A6 c6).below b2)
   have HEY := Aside0.mk hb
   have HW2 := Aside0.mk (b1.trans (b2.mono b1.size))
   have HGX := Aside0.mk (Kd.C_below g6 HW2.out)
   have HGY := Aside0.mk (Kd.C_below m6 HW2.out)
   have HLX := Aside0.mk l6
   have HLY := Aside0.mk n6
   clear hx0 hy0 HA0 HB0 l6 n6 g6 m6 b1 b2 hsz hb
   go_upto_region 6 with (first | ((with_reducible refine gate_dst (N := 21) rfl ?_); refine load69 HAX.out rfl (.tmp 20) rfl rfl ?_) | (refine store69 (by rfl) #[.int .i64 x.f0, .int .i64 x.f1, .bool x.f2, .int .i64 x.f3, .int .u32 x.f4, .int .i64 x.f5, .slice A6 x.f6.length c6, .int .u32 x.f7] (by rfl) (by simp [Value.oneCell']) (by rfl) (.tmp 8) (.tmp 21) (by rfl) (by rfl) (by rfl) (by rfl) ?_))
   go_upto_region 7 with (first | ((with_reducible refine gate_dst (N := 25) rfl ?_); refine load69 HBX.out rfl (.tmp 24) rfl rfl ?_) | (refine store69 (by rfl) #[.int .i64 y.f0, .int .i64 y.f1, .bool y.f2, .int .i64 y.f3, .int .u32 y.f4, .int .i64 y.f5, .slice B6 y.f6.length d6, .int .u32 y.f7] (by rfl) (by simp [Value.oneCell']) (by rfl) (.tmp 9) (.tmp 25) (by rfl) (by rfl) (by rfl) (by rfl) ?_))
   generalize (wr.alloc (.cells #[.int .i64 x.f0, .int .i64 x.f1, .bool x.f2, .int .i64 x.f3, .int .u32 x.f4, .int .i64 x.f5, .slice A6 x.f6.length c6, .int .u32 x.f7] 69)).alloc (.cells #[.int .i64 y.f0, .int .i64 y.f1, .bool y.f2, .int .i64 y.f3, .int .u32 y.f4, .int .i64 y.f5, .slice B6 y.f6.length d6, .int .u32 y.f7] 69) = w2 at *
   go_wp2_with (first | ((with_reducible refine gate_dst (N := 27) rfl ?_); refine load69 HEX.out rfl (.tmp 8) rfl rfl ?_) | ((with_reducible refine gate_dst (N := 28) rfl ?_); refine load69 HEY.out rfl (.tmp 9) rfl rfl ?_))
   refine (same57_calls x y A6 B6 c6 d6 w2 HGX.out HGY.out HLX.out HLY.out).mono ?_
   rintro e w3 ⟨rfl, b3⟩
   have HB2 := Aside0.mk (HB.out.trans ((HW2.out.trans (b3.mono HW2.out.size)).mono HB.out.size))
   clear b3
   rcases he : eq69 x y with _ | _
   ·have HK := Aside0.mk (show eqL eq69 xs ys = false from by rw [HS.out, he, Bool.false_and])
    clear he HS
    go_wp2_with fail
    go_ret
    exact ⟨ret_b HK.out, HB2.out⟩
   ·have HK := Aside0.mk (show eqL eq69 xs ys = eqL eq69 (xs.drop (k + 1)) (ys.drop (k + 1)) from by rw [HS.out, he, Bool.true_and])
    clear he HS
    go_wp2_with fail
    go_roundg (xs.length - (k + 1))
    case measure => have := HLT.out; omega
    case rel => exact ⟨k + 1, HLT.out, rfl, by go_num, HK, HB2⟩
  ·have hd : decide ((k : Int) < (xs.length : Int)) = false := decide_eq_false (by omega)
   have HK := Aside0.mk (show eqL eq69 xs ys = true from by rw [HS.out, List.drop_of_length_le (by omega), List.drop_of_length_le (by have := HL.out; omega)]; rfl)
   clear HS
   go_wp2_with fail
   go_ret
   exact ⟨ret_b HK.out, HB.out⟩
 ·have hlb : ((xs.length : Int) != (ys.length : Int)) = true := by rw [bne_iff_ne]; omega
  have HK := Aside0.mk (eqL_len eq69 xs ys hl)
  clear hl
  go_enter Try.func56, Try.ntmps56
  go_wp2_with fail
  go_ret
  exact ⟨ret_b HK.out, HB.out⟩
set_option maxRecDepth 1000000 in
set_option maxHeartbeats 4000000 in
theorem eqF107_calls (A A2 : Option Addr) (c c2 : Nat) (xs ys : List S107) (w : World) (hx : k107.C w A xs.length xs) (hy : k107.C w A2 ys.length ys) (hc : xs.length ≤ c) (hc2 : ys.length ≤ c2) :
  Calls Try.prog 63 #[.slice A xs.length c, .slice A2 ys.length c2, .func (.func 64) #[] #[]] w fun e w' => e = .returned (.bool (eqL eq107 xs ys)) ∧ Below w.heap.size w w' := by
 have HX := Aside0.mk hx
 have HY := Aside0.mk hy
 have hlx := hx.2.1
 have hlz := hy.2.1
 have HB := Aside0.mk (Below.refl w.heap.size w)
 clear hx hy
 by_cases hl : xs.length = ys.length
 ·have hlb : ((xs.length : Int) != (ys.length : Int)) = false := by rw [bne_eq_false_iff_eq, hl]
  have HL := Aside0.mk hl
  clear hl
  go_enter Try.func63, Try.ntmps63
  go_wp2_with fail
  go_loopg [17] xs.length (fun g i wr => ∃ k : Nat, k ≤ xs.length ∧ g = xs.length - k ∧ i = .int .i64 k ∧ Aside0 (eqL eq107 xs ys = eqL eq107 (xs.drop k) (ys.drop k)) ∧ Aside0 (Below w.heap.size w wr))
  case atStart => exact ⟨0, by omega, rfl, rfl, ⟨rfl⟩, HB⟩
  case round =>
  clear HB
  obtain ⟨k, hk, rfl, rfl, HS, HB⟩ := hrel
  by_cases hlt : k < xs.length
  ·have hd : decide ((k : Int) < (xs.length : Int)) = true := decide_eq_true (by omega)
   have hly : k < ys.length := by have := HL.out; omega
   have HLT := Aside0.mk hlt
   replace HS := Aside0.mk (HS.out.trans (eqL_drop eq107 z107 xs ys k hlt hly))
   obtain ⟨x, ad, A6, c6, hx0, eA, HA0, l6, g6⟩ := isr_at (Kd.C_below HX.out HB.out) k hlt
   subst eA
   have HAX := Aside0.mk HA0
   obtain ⟨y, ad2, B6, d6, hy0, eB, HB0, n6, m6⟩ := isr_at (Kd.C_below HY.out HB.out) k hly
   subst eB
   rw [hx0, hy0] at HS
   have b1 := below_a wr (.cells #[.int .i64 x.f0, .int .i64 x.f1, .slice A6 x.f2.length c6] 107)
   have b2 := below_a (wr.alloc (.cells #[.int .i64 x.f0, .int .i64 x.f1, .slice A6 x.f2.length c6] 107)) (.cells #[.int .i64 y.f0, .int .i64 y.f1, .slice B6 y.f2.length d6] 107)
   have hsz : (wr.alloc (.cells #[.int .i64 x.f0, .int .i64 x.f1, .slice A6 x.f2.length c6] 107)).heap.size = wr.heap.size + 1 := by simp
   have HBX := Aside0.mk (HB0.below b1)
   have hb := At107.made (wr.alloc (.cells #[.int .i64 x.f0, .int .i64 x.f1, .slice A6 x.f2.length c6] 107)) y B6 d6
   rw [hsz] at hb
   have HEX := Aside0.mk ((At107.made wr x A6 c6).below b2)
   have HEY := Aside0.mk hb
   have HW2 := Aside0.mk (b1.trans (b2.mono b1.size))
   have HGX := Aside0.mk (Kd.C_below g6 HW2.out)
   have HGY := Aside0.mk (Kd.C_below m6 HW2.out)
   have HLX := Aside0.mk l6
   have HLY := Aside0.mk n6
   clear hx0 hy0 HA0 HB0 l6 n6 g6 m6 b1 b2 hsz hb
   go_upto_region 6 with (first | ((with_reducible refine gate_dst (N := 21) rfl ?_); refine load107 HAX.out rfl (.tmp 20) rfl rfl ?_) | (refine store107 (by rfl) #[.int .i64 x.f0, .int .i64 x.f1, .slice A6 x.f2.length c6] (by rfl) (by simp [Value.oneCell']) (by rfl) (.tmp 8) (.tmp 21) (by rfl) (by rfl) (by rfl) (by rfl) ?_))
   go_upto_region 7 with (first | ((with_reducible refine gate_dst (N := 25) rfl ?_); refine load107 HBX.out rfl (.tmp 24) rfl rfl ?_) | (refine store107 (by rfl) #[.int .i64 y.f0, .int .i64 y.f1, .slice B6 y.f2.length d6] (by rfl) (by simp [Value.oneCell']) (by rfl) (.tmp 9) (.tmp 25) (by rfl) (by rfl) (by rfl) (by rfl) ?_))
   generalize (wr.alloc (.cells #[.int .i64 x.f0, .int .i64 x.f1, .slice A6 x.f2.length c6] 107)).alloc (.cells #[.int .i64 y.f0, .int .i64 y.f1, .slice B6 y.f2.length d6] 107) = w2 at *
   go_wp2_with (first | ((with_reducible refine gate_dst (N := 27) rfl ?_); refine load107 HEX.out rfl (.tmp 8) rfl rfl ?_) | ((with_reducible refine gate_dst (N := 28) rfl ?_); refine load107 HEY.out rfl (.tmp 9) rfl rfl ?_))
   refine (same64_calls x y A6 B6 c6 d6 w2 HGX.out HGY.out HLX.out HLY.out).mono ?_
   rintro e w3 ⟨rfl, b3⟩
   have HB2 := Aside0.mk (HB.out.trans ((HW2.out.trans (b3.mono HW2.out.size)).mono HB.out.size))
   clear b3
   rcases he : eq107 x y with _ | _
   ·have HK := Aside0.mk (show eqL eq107 xs ys = false from by rw [HS.out, he, Bool.false_and])
    clear he HS
    go_wp2_with fail
    go_ret
    exact ⟨ret_b HK.out, HB2.out⟩
   ·have HK := Aside0.mk (show eqL eq107 xs ys = eqL eq107 (xs.drop (k + 1)) (ys.drop (k + 1)) from by rw [HS.out, he, Bool.true_and])
    clear he HS
    go_wp2_with fail
    go_roundg (xs.length - (k + 1))
    case measure => have := HLT.out; omega
    case rel => exact ⟨k + 1, HLT.out, rfl, by go_num, HK, HB2⟩
  ·have hd : decide ((k : Int) < (xs.length : Int)) = false := decide_eq_false (by omega)
   have HK := Aside0.mk (show eqL eq107 xs ys = true from by rw [HS.out, List.drop_of_length_le (by omega), List.drop_of_length_le (by have := HL.out; omega)]; rfl)
   clear HS
   go_wp2_with fail
   go_ret
   exact ⟨ret_b HK.out, HB.out⟩
 ·have hlb : ((xs.length : Int) != (ys.length : Int)) = true := by rw [bne_iff_ne]; omega
  have HK := Aside0.mk (eqL_len eq107 xs ys hl)
  clear hl
  go_enter Try.func63, Try.ntmps63
  go_wp2_with fail
  go_ret
  exact ⟨ret_b HK.out, HB.out⟩
end Go.Proofs.Ytbgcemijihpakaa.XA
end
section
namespace Go.Proofs.Ytbgcemijihpakaa.XA
set_option linter.unusedVariables false
set_option linter.unusedSimpArgs false
open Go.RowKit Go.WideMaps Go.Maps Go.Proofs.YtbgcemijihpakaaW.PrintWords Go.Proofs.YtbgcemijihpakaaW.PrintLast Go.Proofs.YtbgcemijihpakaaW.PrintMore
set_option maxRecDepth 1000000 in
set_option maxHeartbeats 4000000 in
theorem same13_calls (V U : TV) (t u : S33) (w : World) (ht : Tb w V t) (hu : Tb w U u) :
  Calls Try.prog 13 #[.agg (arr V t), .agg (arr U u)] w fun e w' => e = .returned (.bool (sameB t u)) ∧ Below w.heap.size w w' := by
 have b1 := below_a w (.cells (arr V t) 33)
 have b2 := below_a (w.alloc (.cells (arr V t) 33)) (.cells (arr U u) 33)
 have hsz : (w.alloc (.cells (arr V t) 33)).heap.size = w.heap.size + 1 := by simp
 have HA := Aside0.mk ((At.made ht).below b2)
 have hb := At.made (hu.below b1)
 rw [hsz] at hb
 have HB := Aside0.mk hb
 have HW := Aside0.mk (b1.trans (b2.mono b1.size))
 clear ht hu b1 b2 hsz hb
 unfold arr at *
 go_enter Try.func13, Try.ntmps13
 go_upto_region 1 with fail
 generalize (w.alloc (.cells #[.int .i64 t.f0, .int .i64 t.f1, .slice V.a2 t.f2.length V.k2, .slice V.a3 t.f3.length V.k3, .slice V.a4 t.f4.length V.k4, .slice V.a5 t.f5.length V.k5, .slice V.a6 t.f6.length V.k6, .slice V.a7 t.f7.length V.k7, .slice V.a8 t.f8.length V.k8, .int .i64 t.f9, .int .i64 t.f10, .int .i64 t.f11, .int .i64 t.f12] 33)).alloc (.cells #[.int .i64 u.f0, .int .i64 u.f1, .slice U.a2 u.f2.length U.k2, .slice U.a3 u.f3.length U.k3, .slice U.a4 u.f4.length U.k4, .slice U.a5 u.f5.length U.k5, .slice U.a6 u.f6.length U.k6, .slice U.a7 u.f7.length U.k7, .slice U.a8 u.f8.length U.k8, .int .i64 u.f9, .int .i64 u.f10, .int .i64 u.f11, .int .i64 u.f12] 33) = w2 at *
 generalize w.heap.size + 1 = Q at HB ⊢
 obtain ⟨P, hP⟩ : ∃ P, P = w.heap.size := ⟨_, rfl⟩
 rw [← hP] at HA ⊢
 clear hP
 have a0 := HA.out.q0
 have b0 := HB.out.q0
 have a1 := HA.out.q1
 have b1 := HB.out.q1
 have a9 := HA.out.q9
 have b9 := HB.out.q9
 have a10 := HA.out.q10
 have b10 := HB.out.q10
 have a11 := HA.out.q11
 have b11 := HB.out.q11
 have a12 := HA.out.q12
 have b12 := HB.out.q12
 rcases h0 : (t.f0 == u.f0) with _ | _
 ·have g0 : (t.f0 != u.f0) = true := by rw [bne_iff_ne]; exact beq_eq_false_iff_ne.mp h0
  go_wp2_with fail
  go_ret
  exact ⟨ret_b (show sameB t u = false from by unfold sameB headB; simp only [h0, Bool.true_and, Bool.false_and]), HW.out⟩
 have g0 : (t.f0 != u.f0) = false := by rw [bne_eq_false_iff_eq]; exact beq_iff_eq.mp h0
 rcases h1 : (t.f1 == u.f1) with _ | _
 ·have g1 : (t.f1 != u.f1) = true := by rw [bne_iff_ne]; exact beq_eq_false_iff_ne.mp h1
  go_wp2_with fail
  go_ret
  exact ⟨ret_b (show sameB t u = false from by unfold sameB headB; simp only [h0, h1, Bool.true_and, Bool.false_and]), HW.out⟩
 have g1 : (t.f1 != u.f1) = false := by rw [bne_eq_false_iff_eq]; exact beq_iff_eq.mp h1
 rcases h9 : (t.f9 == u.f9) with _ | _
 ·have g9 : (t.f9 != u.f9) = true := by rw [bne_iff_ne]; exact beq_eq_false_iff_ne.mp h9
  go_wp2_with fail
  go_ret
  exact ⟨ret_b (show sameB t u = false from by unfold sameB headB; simp only [h0, h1, h9, Bool.true_and, Bool.false_and]), HW.out⟩
 have g9 : (t.f9 != u.f9) = false := by rw [bne_eq_false_iff_eq]; exact beq_iff_eq.mp h9
 rcases h10 : (t.f10 == u.f10) with _ | _
 ·have g10 : (t.f10 != u.f10) = true := by rw [bne_iff_ne]; exact beq_eq_false_iff_ne.mp h10
  go_wp2_with fail
  go_ret
  exact ⟨ret_b (show sameB t u = false from by unfold sameB headB; simp only [h0, h1, h9, h10, Bool.true_and, Bool.false_and]), HW.out⟩
 have g10 : (t.f10 != u.f10) = false := by rw [bne_eq_false_iff_eq]; exact beq_iff_eq.mp h10
 rcases h11 : (t.f11 == u.f11) with _ | _
 ·have g11 : (t.f11 != u.f11) = true := by rw [bne_iff_ne]; exact beq_eq_false_iff_ne.mp h11
  go_wp2_with fail
  go_ret
  exact ⟨ret_b (show sameB t u = false from by unfold sameB headB; simp only [h0, h1, h9, h10, h11, Bool.true_and, Bool.false_and]), HW.out⟩
 have g11 : (t.f11 != u.f11) = false := by rw [bne_eq_false_iff_eq]; exact beq_iff_eq.mp h11
 rcases h12 : (t.f12 == u.f12) with _ | _
 ·have g12 : (t.f12 != u.f12) = true := by rw [bne_iff_ne]; exact beq_eq_false_iff_ne.mp h12
  go_wp2_with fail
  go_ret
  exact ⟨ret_b (show sameB t u = false from by unfold sameB headB; simp only [h0, h1, h9, h10, h11, h12, Bool.true_and, Bool.false_and]), HW.out⟩
 have g12 : (t.f12 != u.f12) = false := by rw [bne_eq_false_iff_eq]; exact beq_iff_eq.mp h12
 have HH := Aside0.mk (show headB t u = true from by unfold headB; simp only [h0, h1, h9, h10, h11, h12, Bool.true_and])
 go_upto_region 3 with fail
 clear h0 g0 a0 b0 h1 g1 a1 b1 h9 g9 a9 b9 h10 g10 a10 b10 h11 g11 a11 b11 h12 g12 a12 b12
 have a2 := HA.out.q2
 have b2 := HB.out.q2
 go_wp2_with fail
 refine (eqF69_calls V.a2 U.a2 V.k2 U.k2 t.f2 u.f2 w2 HA.out.tb.tk HB.out.tb.tk HA.out.tb.tkl HB.out.tb.tkl).mono ?_
 rintro e w3 ⟨rfl, hb⟩
 replace HA := Aside0.mk (HA.out.below hb)
 replace HB := Aside0.mk (HB.out.below hb)
 replace HW := Aside0.mk (HW.out.trans (hb.mono HW.out.size))
 clear hb a2 b2
 rcases e2 : eqL eq69 t.f2 u.f2 with _ | _
 ·go_wp2_with fail
  go_ret
  exact ⟨ret_b (show sameB t u = false from by unfold sameB; rw [HH.out]; simp only [e2, Bool.true_and, Bool.false_and]), HW.out⟩
 have a3 := HA.out.q3
 have b3 := HB.out.q3
 go_wp2_with fail
 refine (eqRing_calls V.a3 U.a3 V.k3 U.k3 t.f3 u.f3 w3 HA.out.tb.rg HB.out.tb.rg HA.out.tb.rgl HB.out.tb.rgl).mono ?_
 rintro e w4 ⟨rfl, hb⟩
 replace HA := Aside0.mk (HA.out.below hb)
 replace HB := Aside0.mk (HB.out.below hb)
 replace HW := Aside0.mk (HW.out.trans (hb.mono HW.out.size))
 clear hb a3 b3
 rcases e3 : eqL eq88 t.f3 u.f3 with _ | _
 ·go_wp2_with fail
  go_ret
  exact ⟨ret_b (show sameB t u = false from by unfold sameB; rw [HH.out]; simp only [e2, e3, Bool.true_and, Bool.false_and]), HW.out⟩
 have a4 := HA.out.q4
 have b4 := HB.out.q4
 go_wp2_with fail
 refine (eqRes_calls V.a4 U.a4 V.k4 U.k4 t.f4 u.f4 w4 HA.out.tb.rs HB.out.tb.rs HA.out.tb.rsl HB.out.tb.rsl).mono ?_
 rintro e w5 ⟨rfl, hb⟩
 replace HA := Aside0.mk (HA.out.below hb)
 replace HB := Aside0.mk (HB.out.below hb)
 replace HW := Aside0.mk (HW.out.trans (hb.mono HW.out.size))
 clear hb a4 b4
 rcases e4 : eqL eq66 t.f4 u.f4 with _ | _
 ·go_wp2_with fail
  go_ret
  exact ⟨ret_b (show sameB t u = false from by unfold sameB; rw [HH.out]; simp only [e2, e3, e4, Bool.true_and, Bool.false_and]), HW.out⟩
 have a5 := HA.out.q5
 have b5 := HB.out.q5
 go_wp2_with fail
 refine (eqCtr_calls V.a5 U.a5 V.k5 U.k5 t.f5 u.f5 w5 HA.out.tb.ct HB.out.tb.ct HA.out.tb.ctl HB.out.tb.ctl).mono ?_
 rintro e w6 ⟨rfl, hb⟩
 replace HA := Aside0.mk (HA.out.below hb)
 replace HB := Aside0.mk (HB.out.below hb)
 replace HW := Aside0.mk (HW.out.trans (hb.mono HW.out.size))
 clear hb a5 b5
 rcases e5 : eqL eq95 t.f5 u.f5 with _ | _
 ·go_wp2_with fail
  go_ret
  exact ⟨ret_b (show sameB t u = false from by unfold sameB; rw [HH.out]; simp only [e2, e3, e4, e5, Bool.true_and, Bool.false_and]), HW.out⟩
 have a6 := HA.out.q6
 have b6 := HB.out.q6
 go_wp2_with fail
 refine (eqAlm_calls V.a6 U.a6 V.k6 U.k6 t.f6 u.f6 w6 HA.out.tb.al HB.out.tb.al HA.out.tb.all HB.out.tb.all).mono ?_
 rintro e w7 ⟨rfl, hb⟩
 replace HA := Aside0.mk (HA.out.below hb)
 replace HB := Aside0.mk (HB.out.below hb)
 replace HW := Aside0.mk (HW.out.trans (hb.mono HW.out.size))
 clear hb a6 b6
 rcases e6 : eqL eq102 t.f6 u.f6 with _ | _
 ·go_wp2_with fail
  go_ret
  exact ⟨ret_b (show sameB t u = false from by unfold sameB; rw [HH.out]; simp only [e2, e3, e4, e5, e6, Bool.true_and, Bool.false_and]), HW.out⟩
 have a7 := HA.out.q7
 have b7 := HB.out.q7
 go_wp2_with fail
 refine (eqF107_calls V.a7 U.a7 V.k7 U.k7 t.f7 u.f7 w7 HA.out.tb.ir HB.out.tb.ir HA.out.tb.irl HB.out.tb.irl).mono ?_
 rintro e w8 ⟨rfl, hb⟩
 replace HA := Aside0.mk (HA.out.below hb)
 replace HB := Aside0.mk (HB.out.below hb)
 replace HW := Aside0.mk (HW.out.trans (hb.mono HW.out.size))
 clear hb a7 b7
 rcases e7 : eqL eq107 t.f7 u.f7 with _ | _
 ·go_wp2_with fail
  go_ret
  exact ⟨ret_b (show sameB t u = false from by unfold sameB; rw [HH.out]; simp only [e2, e3, e4, e5, e6, e7, Bool.true_and, Bool.false_and]), HW.out⟩
 have a8 := HA.out.q8
 have b8 := HB.out.q8
 go_wp2_with fail
 refine (eqMsg_calls V.a8 U.a8 V.k8 U.k8 t.f8 u.f8 w8 HA.out.tb.mg HB.out.tb.mg HA.out.tb.mgl HB.out.tb.mgl).mono ?_
 rintro e w9 ⟨rfl, hb⟩
 replace HA := Aside0.mk (HA.out.below hb)
 replace HB := Aside0.mk (HB.out.below hb)
 replace HW := Aside0.mk (HW.out.trans (hb.mono HW.out.size))
 clear hb a8 b8
 go_wp2_with fail
 go_ret
 exact ⟨ret_b (show sameB t u = eqL eq113 t.f8 u.f8 from by unfold sameB; rw [HH.out]; simp only [e2, e3, e4, e5, e6, e7, Bool.true_and]), HW.out⟩
end Go.Proofs.Ytbgcemijihpakaa.XA
end
section
namespace Go.Proofs.Ytbgcemijihpakaa.XA
set_option linter.unusedVariables false
set_option linter.unusedSimpArgs false
open Go.RowKit Go.WideMaps Go.Maps Go.Proofs.YtbgcemijihpakaaW.PrintWords Go.Proofs.YtbgcemijihpakaaW.PrintLast Go.Proofs.YtbgcemijihpakaaW.PrintMore
/-- the first i of n have come up -/
def upTo (i n : Nat) : Array Bool := (List.replicate i true ++ List.replicate (n - i) false).toArray
theorem upTo_getD (i n j : Nat) (d : Bool) (h : i ≤ n) : (upTo i n).getD j d = if j < i then true else if j < n then false else d := by
 unfold upTo
 rw [Array.getD_eq_getD_getElem?]
 simp only [List.getElem?_toArray, List.getElem?_append, List.length_replicate, List.getElem?_replicate]
 by_cases h1 : j < i
 ·simp [h1]
 ·by_cases h2 : j < n
  ·simp [h1, h2, show j - i < n - i by omega]
  ·simp [h1, h2, show ¬ j - i < n - i by omega]
theorem upTo_set (i n : Nat) (h : i < n) : (upTo i n).setIfInBounds i true = upTo (i + 1) n := by
 unfold upTo
 rw [List.setIfInBounds_toArray]
 congr 1
 rw [List.set_append_right _ _ (by simp), List.length_replicate, Nat.sub_self, show n - i = (n - (i + 1)) + 1 by omega, List.replicate_succ, List.set_cons_zero, List.replicate_succ', List.append_assoc]
 rfl
/-- no operation waits for a later one; one that is not in cs may come ahead of each later one that does not wait for it -/
def seqB (md : Region.Mode) (ops : Array Oper) (n : Nat) (cs : List Nat) : Bool :=
 ops.size == n && Region.noSelect ops && (List.range n).all fun i => match ops[i]? with
  | none => false
  | some oi => (oi.after.all fun e => !Region.binds md e || decide (e.on < i)) && (cs.contains i || (List.range n).all fun j => decide (j ≤ i) || match ops[j]? with
   | some oj => (oj.after.any fun e => Region.binds md e && e.on == i) || oi.apart ops oj
   | none => true)
section
variable {P : Program} {ops : Array Oper} {Q : Exit → Act → World → Prop} {md : Region.Mode} {S : World → Prop} {ds cs : List Nat} {n : Nat}
theorem seq_deps (h : seqB md ops n cs = true) {i : Nat} {oi : Oper} (hi : ops[i]? = some oi) : i < n ∧ ∀ e ∈ oi.after, Region.binds md e = true → e.on < i := by
 unfold seqB at h
 simp only [Bool.and_eq_true, beq_iff_eq, List.all_eq_true, List.mem_range] at h
 have hlt : i < n := by rw [← h.1.1]; exact (Array.getElem?_eq_some_iff.1 hi).1
 have h2 := h.2 i hlt
 rw [hi] at h2
 simp only [Bool.and_eq_true, Array.all_eq_true_iff_forall_mem, Bool.or_eq_true, Bool.not_eq_true', decide_eq_true_eq] at h2
 refine ⟨hlt, fun e he hb => ?_⟩
 rcases h2.1 e he with h3 | h3
 ·rw [hb] at h3; cases h3
 ·exact h3
theorem seq_apart (h : seqB md ops n cs = true) {i : Nat} {oi : Oper} (hi : ops[i]? = some oi) (hc : cs.contains i = false) {j : Nat} {oj : Oper} (hj : ops[j]? = some oj) (hij : i < j) (hno : ∀ e ∈ oj.after, Region.binds md e = true → e.on ≠ i) : oi.apart ops oj = true := by
 have hlt := (seq_deps h hi).1
 have hjt := (seq_deps h hj).1
 unfold seqB at h
 simp only [Bool.and_eq_true, beq_iff_eq, List.all_eq_true, List.mem_range] at h
 have h2 := h.2 i hlt
 rw [hi] at h2
 simp only [Bool.and_eq_true, Bool.or_eq_true, List.all_eq_true, List.mem_range] at h2
 rcases h2.2 with h3 | h3
 ·rw [hc] at h3; cases h3
 ·have h4 := h3 j hjt
  rw [hj] at h4
  simp only [Bool.or_eq_true, decide_eq_true_eq] at h4
  rcases h4 with h4 | h4 | h4
  ·omega
  ·rw [Array.any_eq_true] at h4
   obtain ⟨x, hx, h5⟩ := h4
   simp only [Bool.and_eq_true, beq_iff_eq] at h5
   exact absurd h5.2 (hno _ (Array.getElem_mem hx) h5.1)
  ·exact h4
theorem seq_ready (h : seqB md ops n cs = true) {i : Nat} {oi : Oper} (hi : ops[i]? = some oi) : i ∈ Region.ready md ops (upTo i n) := by
 obtain ⟨hlt, hd⟩ := seq_deps h hi
 refine mem_ready.2 ⟨?_, oi, hi, fun e he hb => ?_⟩
 ·rw [upTo_getD _ _ _ _ (by omega), if_neg (by omega), if_pos hlt]
 ·have := hd e he hb
  rw [upTo_getD _ _ _ _ (by omega), if_pos this]
theorem seq_free (h : seqB md ops n cs = true) {i : Nat} {oi : Oper} (hi : ops[i]? = some oi) (hc : cs.contains i = false) (j : Nat) (oj : Oper) (hj : ops[j]? = some oj) (hne : j ≠ i) (hun : (upTo i n).getD j true = false) (hno : ∀ e ∈ oj.after, Region.binds md e = true → e.on ≠ i) : oi.apart ops oj = true := by
 have hlt := (seq_deps h hi).1
 rw [upTo_getD _ _ _ _ (by omega)] at hun
 refine seq_apart h hi hc hj ?_ hno
 split at hun
 ·cases hun
 ·omega
theorem seq_nosel (h : seqB md ops n cs = true) : Region.noSelect ops = true := by
 unfold seqB at h
 simp only [Bool.and_eq_true] at h
 exact h.1.2
/-- an operation that yields in every world -/
theorem seqp_ {i N : Nat} {oi : Oper} {v : Value} {fuel : Nat} {a : Act} {w : World} (h : seqB md ops n cs = true) (hi : ops[i]? = some oi) (hN : oi.dst = some N) (hc : cs.contains i = false)
  (hQ : ∀ c a w, Q (.panic c) (a.put oi.dst v) w → Q (.panic c) a w) (hy : Yields P ops oi v a) {a' : Act} (ha : a.put (some N) v = a')
  (hh : wpAnyLast P md ops Q S ds fuel (upTo (i + 1) n) a' w) : wpAnyLast P md ops Q S ds (fuel + 1) (upTo i n) a w := by
 subst ha
 rw [← hN] at hh
 refine wpAnyLast_any hi (Region.noSelect_spec (seq_nosel h)) hQ fuel (upTo i n) a w (seq_free h hi hc) (seq_ready h hi) hy ?_
 rw [upTo_set _ _ (seq_deps h hi).1]
 exact hh
/-- an operation that yields in every world that meets S; nothing of ds is left out of sight -/
theorem seqt_ {i N : Nat} {oi : Oper} {v : Value} {fuel : Nat} {a : Act} {w : World} (h : seqB md ops n cs = true) (hi : ops[i]? = some oi) (hN : oi.dst = some N) (hc : cs.contains i = false) (hl : (ds.all fun d => decide (d < i) || Region.reachB md ops i ops.size d) = true)
  (hQ : ∀ c a w, Q (.panic c) (a.put oi.dst v) w → Q (.panic c) a w) (hy : YieldsIf P ops S oi v a) (hS : S w) {a' : Act} (ha : a.put (some N) v = a')
  (hh : wpAnyLast P md ops Q S ds fuel (upTo (i + 1) n) a' w) : wpAnyLast P md ops Q S ds (fuel + 1) (upTo i n) a w := by
 subst ha
 rw [← hN] at hh
 have hlt := (seq_deps h hi).1
 refine wpAnyLast_first hi (Region.noSelect_spec (seq_nosel h)) hQ ops.size fuel (upTo i n) a w (seq_free h hi hc) ?_ (fun d hm hun => ?_) (seq_ready h hi) hy hS ?_
 ·intro j oj hj hl2 e he hb
  obtain ⟨_, hd⟩ := seq_deps h hj
  rw [upTo_getD _ _ _ _ (by omega)] at hl2 ⊢
  have := hd e he hb
  by_cases h1 : j < i
  ·rw [if_pos (by omega)]
  ·rw [if_neg h1] at hl2
   simp at hl2
 ·have := List.all_eq_true.1 hl d hm
  rw [upTo_getD _ _ _ _ (by omega)] at hun
  split at hun
  ·cases hun
  ·simp only [Bool.or_eq_true, decide_eq_true_eq] at this
   rcases this with h1 | h1
   ·omega
   ·exact h1
 ·rw [upTo_set _ _ hlt]
  exact hh
theorem put_same (a : Act) (N : Nat) (v : Value) (h : a.tmps[N]? = some v) : a.put (some N) v = a := by
 obtain ⟨tmps, ds⟩ := a
 simp only [Act.put]
 congr 1
 apply Array.ext_getElem?
 intro j
 rw [Array.getElem?_setIfInBounds]
 split
 ·rename_i hj
  subst hj
  split
  ·exact h.symm
  ·rename_i h2
   rw [Array.getElem?_eq_none (by omega)]
 ·rfl
/-- an operation that is not wanted, and whose place was never filled -/
theorem seqs_ {i N : Nat} {oi : Oper} {fuel : Nat} {a : Act} {w : World} (h : seqB md ops n cs = true) (hi : ops[i]? = some oi) (hN : oi.dst = some N) (hc : cs.contains i = false)
  (hQ : ∀ c a w, Q (.panic c) (a.put oi.dst undef) w → Q (.panic c) a w) (hw : Region.wanted oi (yielded ops a.tmps) = false) (hu : a.tmps[N]? = some undef)
  (hh : wpAnyLast P md ops Q S ds fuel (upTo (i + 1) n) a w) : wpAnyLast P md ops Q S ds (fuel + 1) (upTo i n) a w :=
 seqp_ h hi hN hc hQ (Or.inr ⟨hw, rfl⟩) (put_same a N undef hu) hh
/-- all have come up -/
theorem seqd_ {fuel : Nat} {a : Act} {w : World} (h : seqB md ops n cs = true) (hq : Q .normal a w) : wpAnyLast P md ops Q S ds fuel (upTo n n) a w := by
 refine wpAnyLast_done ?_ hq fuel
 unfold Region.ready
 rw [List.filter_eq_nil_iff]
 intro i hi
 rw [List.mem_range] at hi
 unfold seqB at h
 simp only [Bool.and_eq_true, beq_iff_eq] at h
 rw [upTo_getD _ _ _ _ (Nat.le_refl _), if_pos (by omega)]
 simp
theorem seq_start (cs : List Nat) {fuel : Nat} {l : Array Bool} {a : Act} {w : World} (h : seqB md ops n cs = true) (hl : l = upTo 0 n) (hh : Aside0 (seqB md ops n cs = true) → wpAnyLast P md ops Q S ds fuel (upTo 0 n) a w) : wpAnyLast P md ops Q S ds fuel l a w := by
 subst hl
 exact hh ⟨h⟩
end
end Go.Proofs.Ytbgcemijihpakaa.XA
end
