/- package table's Check. -/
import Derived.Test.YtbgcemijihpakaaG09
import Derived.Test.YtbgcemijihpakaaG14
namespace Go.Proofs.Ytbgcemijihpakaa.XA
set_option linter.unusedVariables false
set_option linter.unusedSimpArgs false
open Go.RowKit Go.WideMaps Go.Maps Go.Proofs.YtbgcemijihpakaaW.PrintWords Go.Proofs.YtbgcemijihpakaaW.PrintLast Go.Proofs.YtbgcemijihpakaaW.PrintMore
def fewB (t : S33) : Bool := decide (0 ≤ t.f0) && decide (t.f0 ≤ 255) && decide (1 ≤ t.f1) && decide (t.f1 ≤ 8) && decide (1 ≤ t.f2.length) && decide (t.f2.length ≤ 256) && decide (t.f4.length ≤ 65) && decide (t.f5.length ≤ 16) && decide (t.f6.length ≤ 64) && decide (t.f7.length ≤ 32) && decide (t.f8.length ≤ 64)
def topB (x : S66) : Bool := decide (-1 ≤ x.f1) && decide (x.f1 ≤ 127)
def prioB (x : S69) : Bool := decide (0 ≤ x.f0) && decide (x.f0 ≤ 63)
def topsB (t : S33) : Bool := (List.range t.f4.length).all (fun i => topB (t.f4.getD i z66))
def priosB (t : S33) : Bool := (List.range t.f2.length).all (fun i => prioB (t.f2.getD i z69))
def roomB (t : S33) : Bool := t.f9 == (t.f3.length : Int) && t.f10 == (t.f7.length : Int) + 4 && t.f11 == mostOf t && t.f12 == backOf t
def tabOk (t : S33) : Bool := fewB t && (topsB t && (priosB t && (tasksB t && (clocksB t && (isrsB t && (msgsB t && roomB t))))))
/-- what Check says: 0, or ErrTables -/
def tabE (t : S33) : Int := if tabOk t then 0 else 90
theorem ret_ok {t : S33} (h : tabOk t = true) : Ending.returned (.int .i64 0) = .returned (.int .i64 (tabE t)) := by unfold tabE; rw [h]; rfl
theorem ret_no {t : S33} (h : tabOk t = false) : Ending.returned (.int .i64 90) = .returned (.int .i64 (tabE t)) := by unfold tabE; rw [h]; rfl
theorem few_of {t : S33} (h : fewB t = true) : 0 ≤ t.f0 ∧ t.f0 ≤ 255 ∧ 1 ≤ t.f1 ∧ t.f1 ≤ 8 ∧ 1 ≤ t.f2.length ∧ t.f2.length ≤ 256 ∧ t.f4.length ≤ 65 ∧ t.f5.length ≤ 16 ∧ t.f6.length ≤ 64 ∧ t.f7.length ≤ 32 ∧ t.f8.length ≤ 64 := by
 unfold fewB at h
 simp only [Bool.and_eq_true, decide_eq_true_eq] at h
 omega
theorem alm_ctr {t : S33} (h : clocksB t = true) : ∀ x ∈ t.f6, 0 ≤ x.f0 ∧ x.f0 < t.f5.length := by
 intro x hx
 obtain ⟨i, hi, rfl⟩ := mem_getD (d := z102) hx
 unfold clocksB at h
 simp only [Bool.and_eq_true, List.all_eq_true] at h
 have := h.2 i (List.mem_range.mpr hi)
 unfold almRow almA at this
 simp only [Bool.and_eq_true, decide_eq_true_eq] at this
 omega
theorem msg_from {t : S33} (h : msgsB t = true) : ∀ x ∈ t.f8, x.f0 ≠ 1 → 0 ≤ x.f2 ∧ x.f2 < t.f8.length := by
 intro x hx h1
 obtain ⟨i, hi, rfl⟩ := mem_getD (d := z113) hx
 unfold msgsB at h
 rw [List.all_eq_true] at h
 have := h i (List.mem_range.mpr hi)
 unfold msgRow at this
 rw [if_neg h1] at this
 unfold recvA at this
 simp only [Bool.and_eq_true, decide_eq_true_eq] at this
 omega
set_option maxRecDepth 1000000 in
set_option maxHeartbeats 4000000 in
theorem check_calls (V : TV) (t : S33) (w : World) (h : Tb w V t) :
  Calls Try.prog 10 #[.agg (arr V t)] w fun e w' => e = .returned (.int .i64 (tabE t)) ∧ Below w.heap.size w w' := by
 have HS := Aside0.mk (At.made h)
 have HB := Aside0.mk (below_a w (.cells (arr V t) 33))
 clear h
 unfold arr at *
 go_enter Try.func10, Try.ntmps10
 go_upto_region 1 with fail
 generalize w.alloc (.cells #[.int .i64 t.f0, .int .i64 t.f1, .slice V.a2 t.f2.length V.k2, .slice V.a3 t.f3.length V.k3, .slice V.a4 t.f4.length V.k4, .slice V.a5 t.f5.length V.k5, .slice V.a6 t.f6.length V.k6, .slice V.a7 t.f7.length V.k7, .slice V.a8 t.f8.length V.k8, .int .i64 t.f9, .int .i64 t.f10, .int .i64 t.f11, .int .i64 t.f12] 33) = w1 at *
 generalize hW : w.heap.size = B at HS ⊢
 have HW := Aside0.mk hW
 clear hW
 go_cut [3] (fun s wx => s = .bool (fewB t) ∧ wx = w1)
 case first => as_aux_lemma =>
  have q0 := HS.out.q0
  have q1 := HS.out.q1
  have q2 := HS.out.q2
  have q4 := HS.out.q4
  have q5 := HS.out.q5
  have q6 := HS.out.q6
  have q7 := HS.out.q7
  have q8 := HS.out.q8
  by_cases h1 : 0 ≤ t.f0
  ·have P1 := Aside0.mk h1
   have b1 : decide (0 ≤ t.f0) = true := decide_eq_true h1
   clear h1
   by_cases h2 : t.f0 ≤ 255
   ·have P2 := Aside0.mk h2
    have b2 : decide (t.f0 ≤ 255) = true := decide_eq_true h2
    clear h2
    by_cases h3 : 1 ≤ t.f1
    ·have P3 := Aside0.mk h3
     have b3 : decide (1 ≤ t.f1) = true := decide_eq_true h3
     clear h3
     by_cases h4 : t.f1 ≤ 8
     ·have P4 := Aside0.mk h4
      have b4 : decide (t.f1 ≤ 8) = true := decide_eq_true h4
      clear h4
      by_cases h5 : 1 ≤ t.f2.length
      ·have P5 := Aside0.mk h5
       have b5 : decide (1 ≤ t.f2.length) = true := decide_eq_true h5
       have b5x : decide ((1 : Int) ≤ (t.f2.length : Int)) = true := decide_eq_true (by omega)
       clear h5
       by_cases h6 : t.f2.length ≤ 256
       ·have P6 := Aside0.mk h6
        have b6 : decide (t.f2.length ≤ 256) = true := decide_eq_true h6
        have b6x : decide ((t.f2.length : Int) ≤ 256) = true := decide_eq_true (by omega)
        clear h6
        by_cases h7 : t.f4.length ≤ 65
        ·have P7 := Aside0.mk h7
         have b7 : decide (t.f4.length ≤ 65) = true := decide_eq_true h7
         have b7x : decide ((t.f4.length : Int) ≤ 65) = true := decide_eq_true (by omega)
         clear h7
         by_cases h8 : t.f5.length ≤ 16
         ·have P8 := Aside0.mk h8
          have b8 : decide (t.f5.length ≤ 16) = true := decide_eq_true h8
          have b8x : decide ((t.f5.length : Int) ≤ 16) = true := decide_eq_true (by omega)
          clear h8
          by_cases h9 : t.f6.length ≤ 64
          ·have P9 := Aside0.mk h9
           have b9 : decide (t.f6.length ≤ 64) = true := decide_eq_true h9
           have b9x : decide ((t.f6.length : Int) ≤ 64) = true := decide_eq_true (by omega)
           clear h9
           by_cases h10 : t.f7.length ≤ 32
           ·have P10 := Aside0.mk h10
            have b10 : decide (t.f7.length ≤ 32) = true := decide_eq_true h10
            have b10x : decide ((t.f7.length : Int) ≤ 32) = true := decide_eq_true (by omega)
            clear h10
            by_cases h11 : t.f8.length ≤ 64
            ·have P11 := Aside0.mk h11
             have b11 : decide (t.f8.length ≤ 64) = true := decide_eq_true h11
             have b11x : decide ((t.f8.length : Int) ≤ 64) = true := decide_eq_true (by omega)
             clear h11
             have HK := Aside0.mk (show fewB t = true from by have h1 := P1.out; have h2 := P2.out; have h3 := P3.out; have h4 := P4.out; have h5 := P5.out; have h6 := P6.out; have h7 := P7.out; have h8 := P8.out; have h9 := P9.out; have h10 := P10.out; have h11 := P11.out; unfold fewB; simp [eq_self, h1, h2, h3, h4, h5, h6, h7, h8, h9, h10, h11] <;> omega)
             go_wp2_with fail
             go_meet
             exact ⟨by rw [HK.out], rfl⟩
            ·have P11 := Aside0.mk h11
             have b11 : decide (t.f8.length ≤ 64) = false := decide_eq_false h11
             have b11x : decide ((t.f8.length : Int) ≤ 64) = false := decide_eq_false (by omega)
             clear h11
             have HK := Aside0.mk (show fewB t = false from by have h1 := P1.out; have h2 := P2.out; have h3 := P3.out; have h4 := P4.out; have h5 := P5.out; have h6 := P6.out; have h7 := P7.out; have h8 := P8.out; have h9 := P9.out; have h10 := P10.out; have h11 := P11.out; unfold fewB; simp [eq_self, h1, h2, h3, h4, h5, h6, h7, h8, h9, h10, h11] <;> omega)
             go_wp2_with fail
             go_meet
             exact ⟨by rw [HK.out], rfl⟩
           ·have P10 := Aside0.mk h10
            have b10 : decide (t.f7.length ≤ 32) = false := decide_eq_false h10
            have b10x : decide ((t.f7.length : Int) ≤ 32) = false := decide_eq_false (by omega)
            clear h10
            have HK := Aside0.mk (show fewB t = false from by have h1 := P1.out; have h2 := P2.out; have h3 := P3.out; have h4 := P4.out; have h5 := P5.out; have h6 := P6.out; have h7 := P7.out; have h8 := P8.out; have h9 := P9.out; have h10 := P10.out; unfold fewB; simp [eq_self, h1, h2, h3, h4, h5, h6, h7, h8, h9, h10] <;> omega)
            go_wp2_with fail
            go_meet
            exact ⟨by rw [HK.out], rfl⟩
          ·have P9 := Aside0.mk h9
           have b9 : decide (t.f6.length ≤ 64) = false := decide_eq_false h9
           have b9x : decide ((t.f6.length : Int) ≤ 64) = false := decide_eq_false (by omega)
           clear h9
           have HK := Aside0.mk (show fewB t = false from by have h1 := P1.out; have h2 := P2.out; have h3 := P3.out; have h4 := P4.out; have h5 := P5.out; have h6 := P6.out; have h7 := P7.out; have h8 := P8.out; have h9 := P9.out; unfold fewB; simp [eq_self, h1, h2, h3, h4, h5, h6, h7, h8, h9] <;> omega)
           go_wp2_with fail
           go_meet
           exact ⟨by rw [HK.out], rfl⟩
         ·have P8 := Aside0.mk h8
          have b8 : decide (t.f5.length ≤ 16) = false := decide_eq_false h8
          have b8x : decide ((t.f5.length : Int) ≤ 16) = false := decide_eq_false (by omega)
          clear h8
          have HK := Aside0.mk (show fewB t = false from by have h1 := P1.out; have h2 := P2.out; have h3 := P3.out; have h4 := P4.out; have h5 := P5.out; have h6 := P6.out; have h7 := P7.out; have h8 := P8.out; unfold fewB; simp [eq_self, h1, h2, h3, h4, h5, h6, h7, h8] <;> omega)
          go_wp2_with fail
          go_meet
          exact ⟨by rw [HK.out], rfl⟩
        ·have P7 := Aside0.mk h7
         have b7 : decide (t.f4.length ≤ 65) = false := decide_eq_false h7
         have b7x : decide ((t.f4.length : Int) ≤ 65) = false := decide_eq_false (by omega)
         clear h7
         have HK := Aside0.mk (show fewB t = false from by have h1 := P1.out; have h2 := P2.out; have h3 := P3.out; have h4 := P4.out; have h5 := P5.out; have h6 := P6.out; have h7 := P7.out; unfold fewB; simp [eq_self, h1, h2, h3, h4, h5, h6, h7] <;> omega)
         go_wp2_with fail
         go_meet
         exact ⟨by rw [HK.out], rfl⟩
       ·have P6 := Aside0.mk h6
        have b6 : decide (t.f2.length ≤ 256) = false := decide_eq_false h6
        have b6x : decide ((t.f2.length : Int) ≤ 256) = false := decide_eq_false (by omega)
        clear h6
        have HK := Aside0.mk (show fewB t = false from by have h1 := P1.out; have h2 := P2.out; have h3 := P3.out; have h4 := P4.out; have h5 := P5.out; have h6 := P6.out; unfold fewB; simp [eq_self, h1, h2, h3, h4, h5, h6] <;> omega)
        go_wp2_with fail
        go_meet
        exact ⟨by rw [HK.out], rfl⟩
      ·have P5 := Aside0.mk h5
       have b5 : decide (1 ≤ t.f2.length) = false := decide_eq_false h5
       have b5x : decide ((1 : Int) ≤ (t.f2.length : Int)) = false := decide_eq_false (by omega)
       clear h5
       have HK := Aside0.mk (show fewB t = false from by have h1 := P1.out; have h2 := P2.out; have h3 := P3.out; have h4 := P4.out; have h5 := P5.out; unfold fewB; simp [eq_self, h1, h2, h3, h4, h5] <;> omega)
       go_wp2_with fail
       go_meet
       exact ⟨by rw [HK.out], rfl⟩
     ·have P4 := Aside0.mk h4
      have b4 : decide (t.f1 ≤ 8) = false := decide_eq_false h4
      clear h4
      have HK := Aside0.mk (show fewB t = false from by have h1 := P1.out; have h2 := P2.out; have h3 := P3.out; have h4 := P4.out; unfold fewB; simp [eq_self, h1, h2, h3, h4] <;> omega)
      go_wp2_with fail
      go_meet
      exact ⟨by rw [HK.out], rfl⟩
    ·have P3 := Aside0.mk h3
     have b3 : decide (1 ≤ t.f1) = false := decide_eq_false h3
     clear h3
     have HK := Aside0.mk (show fewB t = false from by have h1 := P1.out; have h2 := P2.out; have h3 := P3.out; unfold fewB; simp [eq_self, h1, h2, h3] <;> omega)
     go_wp2_with fail
     go_meet
     exact ⟨by rw [HK.out], rfl⟩
   ·have P2 := Aside0.mk h2
    have b2 : decide (t.f0 ≤ 255) = false := decide_eq_false h2
    clear h2
    have HK := Aside0.mk (show fewB t = false from by have h1 := P1.out; have h2 := P2.out; unfold fewB; simp [eq_self, h1, h2] <;> omega)
    go_wp2_with fail
    go_meet
    exact ⟨by rw [HK.out], rfl⟩
  ·have P1 := Aside0.mk h1
   have b1 : decide (0 ≤ t.f0) = false := decide_eq_false h1
   clear h1
   have HK := Aside0.mk (show fewB t = false from by have h1 := P1.out; unfold fewB; simp [eq_self, h1] <;> omega)
   go_wp2_with fail
   go_meet
   exact ⟨by rw [HK.out], rfl⟩
 case rest =>
 obtain ⟨rfl, rfl⟩ := hcut
 rcases hfew : fewB t with _ | _
 ·have HK := Aside0.mk (show tabOk t = false from by unfold tabOk; rw [hfew]; rfl)
  clear hfew
  go_wp2_with fail
  go_ret
  exact ⟨ret_no HK.out, HB.out⟩
 have HFEW := Aside0.mk hfew
 clear hfew
 have q4 := HS.out.q4
 go_wp2_with fail
 clear q4
 try clear hnl hbd hd
 generalize hA : V.a4 = A4
 have HV4 := Aside0.mk hA
 clear hA
 go_loopg [77] t.f4.length (fun g i wr => ∃ k : Nat, k ≤ t.f4.length ∧ g = t.f4.length - k ∧ i = .int .i64 k ∧ Aside0 (At wr B V t) ∧ Aside0 (Below w.heap.size w wr) ∧ Aside0 (∀ j, j < k → topB (t.f4.getD j z66) = true))
 case atStart => exact ⟨0, by omega, rfl, rfl, HS, HB, ⟨fun j hj => by omega⟩⟩
 case round =>
 clear HS HB
 obtain ⟨k, hk, rfl, rfl, HS, HB, HR⟩ := hrel
 have hbd := HS.out.tb.bd.rs
 by_cases hlt : k < t.f4.length
 ·have hd : decide ((k : Int) < (t.f4.length : Int)) = true := decide_eq_true (by omega)
  obtain ⟨x, ad, hx, e, HA⟩ := res_at HS.out.tb.rs k hlt
  obtain rfl : A4 = some ad := by rw [← HV4.out]; exact e
  have HAX := Aside0.mk HA
  have HN2 := Aside0.mk hx
  have B1 := below_a wr (.cells #[.bool x.f0, .int .i64 x.f1] 66)
  have HX := Aside0.mk (At66.made wr x)
  have HLT := Aside0.mk hlt
  clear hx e HA
  go_upto_region 7 with (first | ((with_reducible refine gate_dst (N := 80) rfl ?_); refine load66 HAX.out rfl (.tmp 79) rfl rfl ?_) | (refine store66 (by rfl) #[.bool x.f0, .int .i64 x.f1] (by rfl) (by simp [Value.oneCell']) (by rfl) (.tmp 5) (.tmp 80) (by rfl) (by rfl) (by rfl) (by rfl) ?_))
  replace HB := Aside0.mk (HB.out.trans (B1.mono HB.out.size))
  replace HS := Aside0.mk (HS.out.below B1)
  clear B1 HAX
  generalize wr.alloc (.cells #[.bool x.f0, .int .i64 x.f1] 66) = w2 at *
  generalize wr.heap.size = P at *
  go_cut [88] (fun s wx => s = .bool (!topB x) ∧ wx = w2)
  case first => as_aux_lemma =>
   have x0 := HX.out.g1
   by_cases h1 : x.f1 < -1
   ·have P1 := Aside0.mk h1
    have b1 : decide (x.f1 < -1) = true := decide_eq_true h1
    clear h1
    have HK := Aside0.mk (show topB x = false from by have h1 := P1.out; unfold topB; simp [eq_self, h1] <;> omega)
    go_wp2_with fail
    go_meet
    exact ⟨by rw [HK.out] <;> rfl, rfl⟩
   ·have P1 := Aside0.mk h1
    have b1 : decide (x.f1 < -1) = false := decide_eq_false h1
    clear h1
    by_cases h2 : 127 < x.f1
    ·have P2 := Aside0.mk h2
     have b2 : decide (127 < x.f1) = true := decide_eq_true h2
     clear h2
     have HK := Aside0.mk (show topB x = false from by have h1 := P1.out; have h2 := P2.out; unfold topB; simp [eq_self, h1, h2] <;> omega)
     go_wp2_with fail
     go_meet
     exact ⟨by rw [HK.out] <;> rfl, rfl⟩
    ·have P2 := Aside0.mk h2
     have b2 : decide (127 < x.f1) = false := decide_eq_false h2
     clear h2
     have HK := Aside0.mk (show topB x = true from by have h1 := P1.out; have h2 := P2.out; unfold topB; simp [eq_self, h1, h2] <;> omega)
     go_wp2_with fail
     go_meet
     exact ⟨by rw [HK.out] <;> rfl, rfl⟩
  case rest =>
   obtain ⟨rfl, rfl⟩ := hcut
   rcases hrow : topB x with _ | _
   ·have HK := Aside0.mk (show tabOk t = false from by unfold tabOk; rw [HFEW.out, show topsB t = false from all_no HLT.out (by rw [HN2.out, hrow])]; simp)
    clear hrow HR
    go_wp2_with fail
    go_ret
    exact ⟨ret_no HK.out, HB.out⟩
   ·have HT := Aside0.mk (upto_next HR.out (show topB (t.f4.getD k z66) = true from by rw [HN2.out, hrow]))
    clear hrow HR
    go_wp2_with fail
    go_roundg (t.f4.length - (k + 1))
    case measure => have := HLT.out; omega
    case rel => exact ⟨k + 1, HLT.out, rfl, by go_num, HS, HB, HT⟩
 have hd : decide ((k : Int) < (t.f4.length : Int)) = false := decide_eq_false (by omega)
 have HALL4 := Aside0.mk (show topsB t = true from all_yes (fun i hi => HR.out i (by omega)))
 clear HR
 have hnl := hlt
 clear hlt
 have q2 := HS.out.q2
 go_wp2_with fail
 clear q2
 try clear hnl hbd hd
 generalize hA : V.a2 = A2
 have HV2 := Aside0.mk hA
 clear hA
 go_loopg [93] t.f2.length (fun g i wr => ∃ k : Nat, k ≤ t.f2.length ∧ g = t.f2.length - k ∧ i = .int .i64 k ∧ Aside0 (At wr B V t) ∧ Aside0 (Below w.heap.size w wr) ∧ Aside0 (∀ j, j < k → prioB (t.f2.getD j z69) = true))
 case atStart => exact ⟨0, by omega, rfl, rfl, HS, HB, ⟨fun j hj => by omega⟩⟩
 case round =>
 clear HS HB
 obtain ⟨k, hk, rfl, rfl, HS, HB, HR⟩ := hrel
 have hbd := HS.out.tb.bd.tk
 by_cases hlt : k < t.f2.length
 ·have hd : decide ((k : Int) < (t.f2.length : Int)) = true := decide_eq_true (by omega)
  obtain ⟨x, ad, A6, c6, hx, e, HA, l6, g6⟩ := task_at HS.out.tb.tk k hlt
  obtain rfl : A2 = some ad := by rw [← HV2.out]; exact e
  have HAX := Aside0.mk HA
  have HN2 := Aside0.mk hx
  have B1 := below_a wr (.cells #[.int .i64 x.f0, .int .i64 x.f1, .bool x.f2, .int .i64 x.f3, .int .u32 x.f4, .int .i64 x.f5, .slice A6 x.f6.length c6, .int .u32 x.f7] 69)
  have HX := Aside0.mk (At69.made wr x A6 c6)
  have HLT := Aside0.mk hlt
  clear hx e HA
  go_upto_region 13 with (first | ((with_reducible refine gate_dst (N := 96) rfl ?_); refine load69 HAX.out rfl (.tmp 95) rfl rfl ?_) | (refine store69 (by rfl) #[.int .i64 x.f0, .int .i64 x.f1, .bool x.f2, .int .i64 x.f3, .int .u32 x.f4, .int .i64 x.f5, .slice A6 x.f6.length c6, .int .u32 x.f7] (by rfl) (by simp [Value.oneCell']) (by rfl) (.tmp 7) (.tmp 96) (by rfl) (by rfl) (by rfl) (by rfl) ?_))
  replace HB := Aside0.mk (HB.out.trans (B1.mono HB.out.size))
  replace HS := Aside0.mk (HS.out.below B1)
  clear B1 HAX
  generalize wr.alloc (.cells #[.int .i64 x.f0, .int .i64 x.f1, .bool x.f2, .int .i64 x.f3, .int .u32 x.f4, .int .i64 x.f5, .slice A6 x.f6.length c6, .int .u32 x.f7] 69) = w2 at *
  generalize wr.heap.size = P at *
  go_cut [104] (fun s wx => s = .bool (!prioB x) ∧ wx = w2)
  case first => as_aux_lemma =>
   have x0 := HX.out.g0
   by_cases h1 : x.f0 < 0
   ·have P1 := Aside0.mk h1
    have b1 : decide (x.f0 < 0) = true := decide_eq_true h1
    clear h1
    have HK := Aside0.mk (show prioB x = false from by have h1 := P1.out; unfold prioB; simp [eq_self, h1] <;> omega)
    go_wp2_with fail
    go_meet
    exact ⟨by rw [HK.out] <;> rfl, rfl⟩
   ·have P1 := Aside0.mk h1
    have b1 : decide (x.f0 < 0) = false := decide_eq_false h1
    clear h1
    by_cases h2 : 63 < x.f0
    ·have P2 := Aside0.mk h2
     have b2 : decide (63 < x.f0) = true := decide_eq_true h2
     clear h2
     have HK := Aside0.mk (show prioB x = false from by have h1 := P1.out; have h2 := P2.out; unfold prioB; simp [eq_self, h1, h2] <;> omega)
     go_wp2_with fail
     go_meet
     exact ⟨by rw [HK.out] <;> rfl, rfl⟩
    ·have P2 := Aside0.mk h2
     have b2 : decide (63 < x.f0) = false := decide_eq_false h2
     clear h2
     have HK := Aside0.mk (show prioB x = true from by have h1 := P1.out; have h2 := P2.out; unfold prioB; simp [eq_self, h1, h2] <;> omega)
     go_wp2_with fail
     go_meet
     exact ⟨by rw [HK.out] <;> rfl, rfl⟩
  case rest =>
   obtain ⟨rfl, rfl⟩ := hcut
   rcases hrow : prioB x with _ | _
   ·have HK := Aside0.mk (show tabOk t = false from by unfold tabOk; rw [HFEW.out, show priosB t = false from all_no HLT.out (by rw [HN2.out, hrow])]; simp)
    clear hrow HR
    go_wp2_with fail
    go_ret
    exact ⟨ret_no HK.out, HB.out⟩
   ·have HT := Aside0.mk (upto_next HR.out (show prioB (t.f2.getD k z69) = true from by rw [HN2.out, hrow]))
    clear hrow HR
    go_wp2_with fail
    go_roundg (t.f2.length - (k + 1))
    case measure => have := HLT.out; omega
    case rel => exact ⟨k + 1, HLT.out, rfl, by go_num, HS, HB, HT⟩
 have hd : decide ((k : Int) < (t.f2.length : Int)) = false := decide_eq_false (by omega)
 have HALL2 := Aside0.mk (show priosB t = true from all_yes (fun i hi => HR.out i (by omega)))
 clear HR
 have hnl := hlt
 clear hlt

 have hf := few_of HFEW.out
 have HF := Aside0.mk hf
 clear hf
 go_wp2_with ((with_reducible refine gate_dst (N := 106) rfl ?_); refine load33 HS.out rfl (.tmp 1) rfl rfl ?_)
 have hx := tasks_calls V t wr HS.out.tb (by have := HF.out; omega) (by have := HF.out; omega)
 unfold arr at hx
 refine hx.mono ?_
 clear hx
 rintro e w5 ⟨rfl, B3⟩
 replace HB := Aside0.mk (HB.out.trans (B3.mono HB.out.size))
 replace HS := Aside0.mk (HS.out.below B3)
 clear B3

 rcases h1 : tasksB t with _ | _
 ·have HK := Aside0.mk (show tabOk t = false from by unfold tabOk; rw [h1]; simp)
  clear h1
  go_wp2_with fail
  go_ret
  exact ⟨ret_no HK.out, HB.out⟩
 have H1 := Aside0.mk h1
 clear h1
 go_wp2_with ((with_reducible refine gate_dst (N := 110) rfl ?_); (refine gate_guard (by rfl) ?_; dsimp only); refine load33 HS.out rfl (.tmp 1) rfl rfl ?_)
 have hx := clocks_calls V t w5 HS.out.tb (by have := HF.out; omega)
 unfold arr at hx
 refine hx.mono ?_
 clear hx
 rintro e w6 ⟨rfl, B3⟩
 replace HB := Aside0.mk (HB.out.trans (B3.mono HB.out.size))
 replace HS := Aside0.mk (HS.out.below B3)
 clear B3

 rcases h1 : clocksB t with _ | _
 ·have HK := Aside0.mk (show tabOk t = false from by unfold tabOk; rw [h1]; simp)
  clear h1
  go_wp2_with fail
  go_ret
  exact ⟨ret_no HK.out, HB.out⟩
 have H2 := Aside0.mk h1
 clear h1
 go_wp2_with ((with_reducible refine gate_dst (N := 115) rfl ?_); (refine gate_guard (by rfl) ?_; dsimp only); refine load33 HS.out rfl (.tmp 1) rfl rfl ?_)
 have hx := isrs_calls V t w6 HS.out.tb
 unfold arr at hx
 refine hx.mono ?_
 clear hx
 rintro e w7 ⟨rfl, B3⟩
 replace HB := Aside0.mk (HB.out.trans (B3.mono HB.out.size))
 replace HS := Aside0.mk (HS.out.below B3)
 clear B3

 rcases h1 : isrsB t with _ | _
 ·have HK := Aside0.mk (show tabOk t = false from by unfold tabOk; rw [h1]; simp)
  clear h1
  go_wp2_with fail
  go_ret
  exact ⟨ret_no HK.out, HB.out⟩
 have H3 := Aside0.mk h1
 clear h1
 go_wp2_with ((with_reducible refine gate_dst (N := 120) rfl ?_); (refine gate_guard (by rfl) ?_; dsimp only); refine load33 HS.out rfl (.tmp 1) rfl rfl ?_)
 have hx := msgs_calls V t w7 HS.out.tb
 unfold arr at hx
 refine hx.mono ?_
 clear hx
 rintro e w8 ⟨rfl, B3⟩
 replace HB := Aside0.mk (HB.out.trans (B3.mono HB.out.size))
 replace HS := Aside0.mk (HS.out.below B3)
 clear B3

 rcases h1 : msgsB t with _ | _
 ·have HK := Aside0.mk (show tabOk t = false from by unfold tabOk; rw [h1]; simp)
  clear h1
  go_wp2_with fail
  go_ret
  exact ⟨ret_no HK.out, HB.out⟩
 have H4 := Aside0.mk h1
 clear h1
 have HTO := Aside0.mk (show tabOk t = roomB t from by unfold tabOk; rw [HFEW.out, HALL4.out, HALL2.out, H1.out, H2.out, H3.out, H4.out]; simp)
 have HRC := Aside0.mk (room_calls V t w8 HS.out.tb (by have := HF.out; omega) (by have := HF.out; omega) (alm_ctr H2.out) (msg_from H4.out))
 obtain ⟨mo, hmo⟩ : ∃ mo, mostOf t = mo := ⟨_, rfl⟩
 obtain ⟨bo, hbo⟩ : ∃ bo, backOf t = bo := ⟨_, rfl⟩
 rw [hmo, hbo] at HRC
 have HMO := Aside0.mk hmo
 have HBO := Aside0.mk hbo
 clear hmo hbo
 go_wp2_with ((with_reducible refine gate_dst (N := 125) rfl ?_); refine load33 HS.out rfl (.tmp 1) rfl rfl ?_)
 have hx := HRC.out
 unfold arr at hx
 refine hx.mono ?_
 clear hx HRC
 rintro e w9 ⟨rfl, B3⟩
 replace HB := Aside0.mk (HB.out.trans (B3.mono HB.out.size))
 replace HS := Aside0.mk (HS.out.below B3)
 clear B3
 have q9 := HS.out.q9
 have q10 := HS.out.q10
 have q11 := HS.out.q11
 have q12 := HS.out.q12
 go_upto_region 19 with fail
 go_cut [152] (fun s wx => s = .bool (!roomB t) ∧ wx = w9)
 case first => as_aux_lemma =>
  by_cases h1 : t.f9 = (t.f3.length : Int)
  ·have P1 := Aside0.mk h1
   have b1 : (t.f9 == (t.f3.length : Int)) = true := by rw [beq_iff_eq]; exact h1
   have b1x : (t.f9 != (t.f3.length : Int)) = false := by rw [bne_eq_false_iff_eq]; exact h1
   clear h1
   by_cases h2 : t.f10 = (t.f7.length : Int) + 4
   ·have P2 := Aside0.mk h2
    have b2 : (t.f10 == (t.f7.length : Int) + 4) = true := by rw [beq_iff_eq]; exact h2
    have b2x : (t.f10 != (t.f7.length : Int) + 4) = false := by rw [bne_eq_false_iff_eq]; exact h2
    clear h2
    by_cases h3 : t.f11 = mo
    ·have P3 := Aside0.mk h3
     have b3 : (t.f11 == mo) = true := by rw [beq_iff_eq]; exact h3
     have b3x : (t.f11 != mo) = false := by rw [bne_eq_false_iff_eq]; exact h3
     clear h3
     by_cases h4 : t.f12 = bo
     ·have P4 := Aside0.mk h4
      have b4 : (t.f12 == bo) = true := by rw [beq_iff_eq]; exact h4
      have b4x : (t.f12 != bo) = false := by rw [bne_eq_false_iff_eq]; exact h4
      clear h4
      have HK := Aside0.mk (show roomB t = true from by have h1 := P1.out; have h2 := P2.out; have h3 := P3.out; have h4 := P4.out; unfold roomB; rw [HMO.out, HBO.out]; simp [eq_self, h1, h2, h3, h4] <;> omega)
      go_wp2_with fail
      go_meet
      exact ⟨by rw [HK.out] <;> rfl, rfl⟩
     ·have P4 := Aside0.mk h4
      have b4 : (t.f12 == bo) = false := by rw [beq_eq_false_iff_ne]; exact h4
      have b4x : (t.f12 != bo) = true := by rw [bne_iff_ne]; exact h4
      clear h4
      have HK := Aside0.mk (show roomB t = false from by have h1 := P1.out; have h2 := P2.out; have h3 := P3.out; have h4 := P4.out; unfold roomB; rw [HMO.out, HBO.out]; simp [eq_self, h1, h2, h3, h4] <;> omega)
      go_wp2_with fail
      go_meet
      exact ⟨by rw [HK.out] <;> rfl, rfl⟩
    ·have P3 := Aside0.mk h3
     have b3 : (t.f11 == mo) = false := by rw [beq_eq_false_iff_ne]; exact h3
     have b3x : (t.f11 != mo) = true := by rw [bne_iff_ne]; exact h3
     clear h3
     have HK := Aside0.mk (show roomB t = false from by have h1 := P1.out; have h2 := P2.out; have h3 := P3.out; unfold roomB; rw [HMO.out, HBO.out]; simp [eq_self, h1, h2, h3] <;> omega)
     go_wp2_with fail
     go_meet
     exact ⟨by rw [HK.out] <;> rfl, rfl⟩
   ·have P2 := Aside0.mk h2
    have b2 : (t.f10 == (t.f7.length : Int) + 4) = false := by rw [beq_eq_false_iff_ne]; exact h2
    have b2x : (t.f10 != (t.f7.length : Int) + 4) = true := by rw [bne_iff_ne]; exact h2
    clear h2
    have HK := Aside0.mk (show roomB t = false from by have h1 := P1.out; have h2 := P2.out; unfold roomB; rw [HMO.out, HBO.out]; simp [eq_self, h1, h2] <;> omega)
    go_wp2_with fail
    go_meet
    exact ⟨by rw [HK.out] <;> rfl, rfl⟩
  ·have P1 := Aside0.mk h1
   have b1 : (t.f9 == (t.f3.length : Int)) = false := by rw [beq_eq_false_iff_ne]; exact h1
   have b1x : (t.f9 != (t.f3.length : Int)) = true := by rw [bne_iff_ne]; exact h1
   clear h1
   have HK := Aside0.mk (show roomB t = false from by have h1 := P1.out; unfold roomB; rw [HMO.out, HBO.out]; simp [eq_self, h1] <;> omega)
   go_wp2_with fail
   go_meet
   exact ⟨by rw [HK.out] <;> rfl, rfl⟩
 case rest =>
  obtain ⟨rfl, rfl⟩ := hcut
  rcases h1 : roomB t with _ | _
  ·have HK := Aside0.mk (show tabOk t = false from by rw [HTO.out, h1])
   clear h1
   go_wp2_with fail
   go_ret
   exact ⟨ret_no HK.out, HB.out⟩
  ·have HK := Aside0.mk (show tabOk t = true from by rw [HTO.out, h1])
   clear h1
   go_wp2_with fail
   go_ret
   exact ⟨ret_ok HK.out, HB.out⟩
end Go.Proofs.Ytbgcemijihpakaa.XA
