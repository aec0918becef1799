/- package table's small functions: tick, own, action. -/
import Derived.Test.YtbgcemijihpakaaG06
section
namespace Go.Proofs.Ytbgcemijihpakaa.XA
set_option linter.unusedVariables false
set_option linter.unusedSimpArgs false
open Go.RowKit Go.WideMaps Go.Maps Go.Proofs.YtbgcemijihpakaaW.PrintWords Go.Proofs.YtbgcemijihpakaaW.PrintLast Go.Proofs.YtbgcemijihpakaaW.PrintMore
theorem all_no {n k : Nat} {f : Nat → Bool} (hk : k < n) (h : f k = false) : (List.range n).all f = false := by
 rw [Bool.eq_false_iff]
 intro h1
 rw [List.all_eq_true] at h1
 rw [h1 k (List.mem_range.mpr hk)] at h
 cases h
theorem all_yes {n : Nat} {f : Nat → Bool} (h : ∀ i, i < n → f i = true) : (List.range n).all f = true := by
 rw [List.all_eq_true]
 exact fun i hi => h i (List.mem_range.mp hi)
theorem upto_next {k : Nat} {f : Nat → Bool} (h : ∀ i, i < k → f i = true) (hk : f k = true) : ∀ i, i < k + 1 → f i = true := fun i hi => by
 rcases Nat.lt_succ_iff_lt_or_eq.mp hi with h1 | rfl
 ·exact h i h1
 ·exact hk
theorem ret_b {a b : Bool} (h : a = b) : Ending.returned (.bool b) = .returned (.bool a) := by rw [h]
def tickB (n : Int) : Bool := decide (1 ≤ n) && decide (n ≤ 2147483647)
theorem tick_calls (n : Int) (w : World) : Calls Try.prog 89 #[.int .u32 n] w fun e w' => e = .returned (.bool (tickB n)) ∧ w' = w := by
 unfold tickB
 rcases h1 : decide (1 ≤ n) with _ | _ <;> rcases h2 : decide (n ≤ 2147483647) with _ | _
 all_goals
  go_enter Try.func89, Try.ntmps89
  go_wp2_with fail
  go_ret
  exact ⟨rfl, rfl⟩
/-- may the resource at a place of a list be somebody's of a priority? -/
def ownAt (rs : List S66) (p : Int) (l : List Int) (i : Nat) : Bool :=
 decide (0 ≤ l.getD i 0) && decide (l.getD i 0 < rs.length) && (decide (i = 0) || decide (l.getD (i - 1) 0 < l.getD i 0)) && !(rs.getD (l.getD i 0).toNat z66).f0 && decide (p ≤ (rs.getD (l.getD i 0).toNat z66).f1)
def ownB (rs : List S66) (l : List Int) (p : Int) : Bool := (List.range l.length).all (ownAt rs p l)
set_option maxRecDepth 1000000 in
set_option maxHeartbeats 4000000 in
theorem own_calls (V : TV) (t : S33) (A : Option Addr) (c : Nat) (l : List Int) (p : Int) (w : World) (h : Tb w V t) (hl : (Kd.int .i64).C w A l.length l) (hc : l.length ≤ c) :
  Calls Try.prog 87 #[.agg (arr V t), .slice A l.length c, .int .i64 p] w fun e w' => e = .returned (.bool (ownB t.f4 l p)) ∧ Below w.heap.size w w' := by
 have hlen := hl.2.1
 have HS := Aside0.mk (At.made h)
 have HB := Aside0.mk (below_a w (.cells (arr V t) 33))
 have HL := Aside0.mk (Kd.C_below hl HB.out)
 clear h hl
 unfold arr at *
 go_enter Try.func87, Try.ntmps87
 go_wp2_with fail
 generalize w.alloc (.cells #[.int .i64 t.f0, .int .i64 t.f1, .slice V.a2 t.f2.length V.k2, .slice V.a3 t.f3.length V.k3, .slice V.a4 t.f4.length V.k4, .slice V.a5 t.f5.length V.k5, .slice V.a6 t.f6.length V.k6, .slice V.a7 t.f7.length V.k7, .slice V.a8 t.f8.length V.k8, .int .i64 t.f9, .int .i64 t.f10, .int .i64 t.f11, .int .i64 t.f12] 33) = w1 at *
 go_loop [7, 8, 11] (fun _ _ i => ∃ k : Nat, k ≤ l.length ∧ i = .int .i64 k ∧ Aside0 (∀ j, j < k → ownAt t.f4 p l j = true)) (fun _ _ i => l.length - (intOf i).toNat)
 case atStart => exact ⟨0, by omega, rfl, ⟨fun j hj => by omega⟩⟩
 case round =>
  obtain ⟨k, hk, rfl, HR⟩ := hrel
  by_cases hlt : k < l.length
  ·have hd : decide ((k : Int) < (l.length : Int)) = true := decide_eq_true (by omega)
   obtain ⟨ad, rfl, hc0⟩ := (Kd.reads_of_C (d := (0 : Int)) HL.out).2.2 (by omega)
   have hx := hc0 k hlt
   have HLT := Aside0.mk hlt
   have HE := Aside0.mk (show ownAt t.f4 p l k = (decide (0 ≤ l.getD k 0) && decide (l.getD k 0 < t.f4.length) && (decide (k = 0) || decide (l.getD (k - 1) 0 < l.getD k 0)) && !(t.f4.getD (l.getD k 0).toNat z66).f0 && decide (p ≤ (t.f4.getD (l.getD k 0).toNat z66).f1)) from rfl)
   have q4 := HS.out.q4
   have hy := fun h0 : k ≠ 0 => hc0 (k - 1) (by omega)
   have HY := Aside0.mk hy
   clear hy hc0
   generalize l.getD k 0 = x at *
   generalize l.getD (k - 1) 0 = y at *
   by_cases h0 : x < 0
   ·have d0 : decide (x < 0) = true := decide_eq_true h0
    have HT := Aside0.mk (show ownB t.f4 l p = false from all_no HLT.out (by rw [HE.out]; simp [*] <;> omega))
    clear HR HE HY HL
    go_wp2_with fail
    go_ret
    exact ⟨ret_b HT.out, HB.out⟩
   ·obtain ⟨q, rfl⟩ := Int.eq_ofNat_of_zero_le (show 0 ≤ x by omega)
    by_cases h1 : t.f4.length ≤ q
    ·have d1 : decide (t.f4.length ≤ q) = true := decide_eq_true h1
     have HT := Aside0.mk (show ownB t.f4 l p = false from all_no HLT.out (by rw [HE.out]; simp [*] <;> omega))
     clear HR HE HY HL
     go_wp2_with fail
     go_ret
     exact ⟨ret_b HT.out, HB.out⟩
    ·obtain ⟨u, ad2, hu, e, HA⟩ := res_at HS.out.tb.rs q (by omega)
     rw [e] at q4
     rw [Int.toNat_natCast, hu] at HE
     have g0 := HA.g0
     have g1 := HA.g1
     have d1 : decide (t.f4.length ≤ q) = false := decide_eq_false h1
     have h1' : q < t.f4.length := by omega
     clear hu e HA
     by_cases hk0 : k = 0
     ·subst hk0
      have hx : w1.cell? ad = some (.int .i64 q) := hx
      rcases hi : u.f0 with _ | _
      ·by_cases h3 : u.f1 < p
       ·have d3 : decide (u.f1 < p) = true := decide_eq_true h3
        have HT := Aside0.mk (show ownB t.f4 l p = false from all_no HLT.out (by rw [HE.out]; simp [*] <;> omega))
        clear HR HE HY HL
        go_wp2_with fail
        go_ret
        exact ⟨ret_b HT.out, HB.out⟩
       ·have d3 : decide (u.f1 < p) = false := decide_eq_false h3
        have HT := Aside0.mk (upto_next HR.out (by rw [HE.out, hi]; simp [*] <;> omega))
        clear HR HE HY
        go_wp2_with fail
        go_round
        case rel => first | exact ⟨k + 1, by omega, by go_num, HT⟩ | exact ⟨1, by omega, rfl, HT⟩
        case measure => simp [intOf]; omega
      ·have HT := Aside0.mk (show ownB t.f4 l p = false from all_no HLT.out (by rw [HE.out]; simp [*] <;> omega))
       clear HR HE HY HL
       go_wp2_with fail
       go_ret
       exact ⟨ret_b HT.out, HB.out⟩
     ·have hy := HY.out hk0
      have hw : IntKind.i64.wrap ((k : Int) - 1) = ((k - 1 : Nat) : Int) := by rw [IntWalk.i64_in _ (by omega)]; omega
      have hk1 : decide ((0 : Int) < (k : Int)) = true := decide_eq_true (by omega)
      by_cases h2 : (q : Int) ≤ y
      ·have d2 : decide ((q : Int) ≤ y) = true := decide_eq_true h2
       have HT := Aside0.mk (show ownB t.f4 l p = false from all_no HLT.out (by rw [HE.out]; simp [*] <;> omega))
       clear HR HE HY HL
       go_wp2_with fail
       go_ret
       exact ⟨ret_b HT.out, HB.out⟩
      ·have d2 : decide ((q : Int) ≤ y) = false := decide_eq_false h2
       rcases hi : u.f0 with _ | _
       ·by_cases h3 : u.f1 < p
        ·have d3 : decide (u.f1 < p) = true := decide_eq_true h3
         have HT := Aside0.mk (show ownB t.f4 l p = false from all_no HLT.out (by rw [HE.out]; simp [*] <;> omega))
         clear HR HE HY HL
         go_wp2_with fail
         go_ret
         exact ⟨ret_b HT.out, HB.out⟩
        ·have d3 : decide (u.f1 < p) = false := decide_eq_false h3
         have HT := Aside0.mk (upto_next HR.out (by rw [HE.out, hi]; simp [*] <;> omega))
         clear HR HE HY
         go_wp2_with fail
         go_round
         case rel => first | exact ⟨k + 1, by omega, by go_num, HT⟩ | exact ⟨1, by omega, rfl, HT⟩
         case measure => simp [intOf]; omega
       ·have HT := Aside0.mk (show ownB t.f4 l p = false from all_no HLT.out (by rw [HE.out]; simp [*] <;> omega))
        clear HR HE HY HL
        go_wp2_with fail
        go_ret
        exact ⟨ret_b HT.out, HB.out⟩
  ·have hd : decide ((k : Int) < (l.length : Int)) = false := decide_eq_false (by omega)
   have HT := Aside0.mk (show ownB t.f4 l p = true from all_yes (fun i hi => HR.out i (by omega)))
   clear HR HL
   go_wp2_with fail
   go_ret
   exact ⟨ret_b HT.out, HB.out⟩
end Go.Proofs.Ytbgcemijihpakaa.XA
end
section
namespace Go.Proofs.Ytbgcemijihpakaa.XA
set_option linter.unusedVariables false
set_option linter.unusedSimpArgs false
open Go.RowKit Go.WideMaps Go.Maps Go.Proofs.YtbgcemijihpakaaW.PrintWords Go.Proofs.YtbgcemijihpakaaW.PrintLast Go.Proofs.YtbgcemijihpakaaW.PrintMore
/-- may an action be, of the kinds from lo to hi? -/
def actB (ts : List S69) (a : S100) (lo hi : Int) : Bool :=
 if a.f0 < lo then false else if hi < a.f0 then false else if a.f0 ≠ 1 ∧ a.f0 ≠ 2 then a.f1 == 0 && a.f2 == 0
 else if a.f1 < 0 then false else if (ts.length : Int) ≤ a.f1 then false else if a.f0 = 1 then a.f2 == 0
 else a.f2 != 0 && bits .andNot .u32 a.f2 (ts.getD a.f1.toNat z69).f4 == 0
set_option maxRecDepth 1000000 in
set_option maxHeartbeats 4000000 in
theorem act_calls (V : TV) (t : S33) (ac : S100) (lo hi : Int) (w : World) (h : Tb w V t) :
  Calls Try.prog 90 #[.agg (arr V t), .agg #[.int .i64 ac.f0, .int .i64 ac.f1, .int .u32 ac.f2], .int .i64 lo, .int .i64 hi] w fun e w' => e = .returned (.bool (actB t.f2 ac lo hi)) ∧ Below w.heap.size w w' := by
 have HS0 := Aside0.mk (At.made h)
 have HB0 := Aside0.mk (below_a w (.cells (arr V t) 33))
 have HE := Aside0.mk (show actB t.f2 ac lo hi = if ac.f0 < lo then false else if hi < ac.f0 then false else if ac.f0 ≠ 1 ∧ ac.f0 ≠ 2 then ac.f1 == 0 && ac.f2 == 0
  else if ac.f1 < 0 then false else if (t.f2.length : Int) ≤ ac.f1 then false else if ac.f0 = 1 then ac.f2 == 0
  else ac.f2 != 0 && bits .andNot .u32 ac.f2 (t.f2.getD ac.f1.toNat z69).f4 == 0 from rfl)
 clear h
 unfold arr at *
 go_enter Try.func90, Try.ntmps90
 go_upto_region 1 with fail
 have hsz : (w.alloc (.cells #[.int .i64 t.f0, .int .i64 t.f1, .slice V.a2 t.f2.length V.k2, .slice V.a3 t.f3.length V.k3, .slice V.a4 t.f4.length V.k4, .slice V.a5 t.f5.length V.k5, .slice V.a6 t.f6.length V.k6, .slice V.a7 t.f7.length V.k7, .slice V.a8 t.f8.length V.k8, .int .i64 t.f9, .int .i64 t.f10, .int .i64 t.f11, .int .i64 t.f12] 33)).heap.size = w.heap.size + 1 := by simp
 generalize w.alloc (.cells #[.int .i64 t.f0, .int .i64 t.f1, .slice V.a2 t.f2.length V.k2, .slice V.a3 t.f3.length V.k3, .slice V.a4 t.f4.length V.k4, .slice V.a5 t.f5.length V.k5, .slice V.a6 t.f6.length V.k6, .slice V.a7 t.f7.length V.k7, .slice V.a8 t.f8.length V.k8, .int .i64 t.f9, .int .i64 t.f10, .int .i64 t.f11, .int .i64 t.f12] 33) = w1 at *
 have HB := Aside0.mk (HB0.out.trans ((below_a w1 (.cells #[.int .i64 ac.f0, .int .i64 ac.f1, .int .u32 ac.f2] 100)).mono HB0.out.size))
 have HS := Aside0.mk (HS0.out.below (below_a w1 (.cells #[.int .i64 ac.f0, .int .i64 ac.f1, .int .u32 ac.f2] 100)))
 have HX := Aside0.mk (At100.made w1 ac)
 rw [hsz] at HX
 clear HB0 HS0 hsz
 generalize w1.alloc (.cells #[.int .i64 ac.f0, .int .i64 ac.f1, .int .u32 ac.f2] 100) = w2 at *
 generalize w.heap.size + 1 = P at *
 have a0 := HX.out.g0
 have a1 := HX.out.g1
 have a2 := HX.out.g2
 have q2 := HS.out.q2
 by_cases h1 : ac.f0 < lo
 ·have P1 := Aside0.mk h1
  have b1 : decide (ac.f0 < lo) = true := decide_eq_true h1
  clear h1
  have HK := Aside0.mk (show actB t.f2 ac lo hi = false from by have h1 := P1.out; rw [HE.out]; simp [eq_self, h1] <;> omega)
  go_wp2_with fail
  go_ret
  exact ⟨ret_b HK.out, HB.out⟩
 ·have P1 := Aside0.mk h1
  have b1 : decide (ac.f0 < lo) = false := decide_eq_false h1
  clear h1
  by_cases h2 : hi < ac.f0
  ·have P2 := Aside0.mk h2
   have b2 : decide (hi < ac.f0) = true := decide_eq_true h2
   clear h2
   have HK := Aside0.mk (show actB t.f2 ac lo hi = false from by have h1 := P1.out; have h2 := P2.out; rw [HE.out]; simp [eq_self, h1, h2] <;> omega)
   go_wp2_with fail
   go_ret
   exact ⟨ret_b HK.out, HB.out⟩
  ·have P2 := Aside0.mk h2
   have b2 : decide (hi < ac.f0) = false := decide_eq_false h2
   clear h2
   by_cases h3 : ac.f0 = 1
   ·have P3 := Aside0.mk h3
    have b3 : (ac.f0 == 1) = true := by rw [beq_iff_eq]; exact h3
    have b3x : (ac.f0 != 1) = false := by rw [bne_eq_false_iff_eq]; exact h3
    clear h3
    by_cases h4 : ac.f1 < 0
    ·have P4 := Aside0.mk h4
     have b4 : decide (ac.f1 < 0) = true := decide_eq_true h4
     clear h4
     have HK := Aside0.mk (show actB t.f2 ac lo hi = false from by have h1 := P1.out; have h2 := P2.out; have h3 := P3.out; have h4 := P4.out; rw [HE.out]; simp [eq_self, h1, h2, h3, h4] <;> omega)
     go_wp2_with fail
     go_ret
     exact ⟨ret_b HK.out, HB.out⟩
    ·have P4 := Aside0.mk h4
     have b4 : decide (ac.f1 < 0) = false := decide_eq_false h4
     clear h4
     obtain ⟨q, hq⟩ := Int.eq_ofNat_of_zero_le (show 0 ≤ ac.f1 by have h1 := P1.out; have h2 := P2.out; have h3 := P3.out; have h4 := P4.out; omega)
     rw [hq] at a1 HE
     have HQ := Aside0.mk hq
     clear hq
     by_cases h5 : t.f2.length ≤ q
     ·have P5 := Aside0.mk h5
      have b5 : decide (t.f2.length ≤ q) = true := decide_eq_true h5
      clear h5
      have HK := Aside0.mk (show actB t.f2 ac lo hi = false from by have h1 := P1.out; have h2 := P2.out; have h3 := P3.out; have h4 := P4.out; have h5 := P5.out; rw [HE.out]; simp [eq_self, h1, h2, h3, h4, h5] <;> omega)
      go_wp2_with fail
      go_ret
      exact ⟨ret_b HK.out, HB.out⟩
     ·have P5 := Aside0.mk h5
      have b5 : decide (t.f2.length ≤ q) = false := decide_eq_false h5
      clear h5
      have hql : q < t.f2.length := by have h1 := P1.out; have h2 := P2.out; have h3 := P3.out; have h4 := P4.out; have h5 := P5.out; omega
      by_cases h6 : ac.f2 = 0
      ·have P6 := Aside0.mk h6
       have b6 : (ac.f2 == 0) = true := by rw [beq_iff_eq]; exact h6
       have b6x : (ac.f2 != 0) = false := by rw [bne_eq_false_iff_eq]; exact h6
       clear h6
       have HK := Aside0.mk (show actB t.f2 ac lo hi = true from by have h1 := P1.out; have h2 := P2.out; have h3 := P3.out; have h4 := P4.out; have h5 := P5.out; have h6 := P6.out; rw [HE.out]; simp [eq_self, h1, h2, h3, h4, h5, h6] <;> omega)
       go_wp2_with fail
       go_ret
       exact ⟨ret_b HK.out, HB.out⟩
      ·have P6 := Aside0.mk h6
       have b6 : (ac.f2 == 0) = false := by rw [beq_eq_false_iff_ne]; exact h6
       have b6x : (ac.f2 != 0) = true := by rw [bne_iff_ne]; exact h6
       clear h6
       have HK := Aside0.mk (show actB t.f2 ac lo hi = false from by have h1 := P1.out; have h2 := P2.out; have h3 := P3.out; have h4 := P4.out; have h5 := P5.out; have h6 := P6.out; rw [HE.out]; simp [eq_self, h1, h2, h3, h4, h5, h6] <;> omega)
       go_wp2_with fail
       go_ret
       exact ⟨ret_b HK.out, HB.out⟩
   ·have P3 := Aside0.mk h3
    have b3 : (ac.f0 == 1) = false := by rw [beq_eq_false_iff_ne]; exact h3
    have b3x : (ac.f0 != 1) = true := by rw [bne_iff_ne]; exact h3
    clear h3
    by_cases h7 : ac.f0 = 2
    ·have P7 := Aside0.mk h7
     have b7 : (ac.f0 == 2) = true := by rw [beq_iff_eq]; exact h7
     have b7x : (ac.f0 != 2) = false := by rw [bne_eq_false_iff_eq]; exact h7
     clear h7
     by_cases h8 : ac.f1 < 0
     ·have P8 := Aside0.mk h8
      have b8 : decide (ac.f1 < 0) = true := decide_eq_true h8
      clear h8
      have HK := Aside0.mk (show actB t.f2 ac lo hi = false from by have h1 := P1.out; have h2 := P2.out; have h3 := P3.out; have h7 := P7.out; have h8 := P8.out; rw [HE.out]; simp [eq_self, h1, h2, h3, h7, h8] <;> omega)
      go_wp2_with fail
      go_ret
      exact ⟨ret_b HK.out, HB.out⟩
     ·have P8 := Aside0.mk h8
      have b8 : decide (ac.f1 < 0) = false := decide_eq_false h8
      clear h8
      obtain ⟨q, hq⟩ := Int.eq_ofNat_of_zero_le (show 0 ≤ ac.f1 by have h1 := P1.out; have h2 := P2.out; have h3 := P3.out; have h7 := P7.out; have h8 := P8.out; omega)
      rw [hq] at a1 HE
      have HQ := Aside0.mk hq
      clear hq
      by_cases h9 : t.f2.length ≤ q
      ·have P9 := Aside0.mk h9
       have b9 : decide (t.f2.length ≤ q) = true := decide_eq_true h9
       clear h9
       have HK := Aside0.mk (show actB t.f2 ac lo hi = false from by have h1 := P1.out; have h2 := P2.out; have h3 := P3.out; have h7 := P7.out; have h8 := P8.out; have h9 := P9.out; rw [HE.out]; simp [eq_self, h1, h2, h3, h7, h8, h9] <;> omega)
       go_wp2_with fail
       go_ret
       exact ⟨ret_b HK.out, HB.out⟩
      ·have P9 := Aside0.mk h9
       have b9 : decide (t.f2.length ≤ q) = false := decide_eq_false h9
       clear h9
       have hql : q < t.f2.length := by have h1 := P1.out; have h2 := P2.out; have h3 := P3.out; have h7 := P7.out; have h8 := P8.out; have h9 := P9.out; omega
       by_cases h10 : ac.f2 = 0
       ·have P10 := Aside0.mk h10
        have b10 : (ac.f2 == 0) = true := by rw [beq_iff_eq]; exact h10
        have b10x : (ac.f2 != 0) = false := by rw [bne_eq_false_iff_eq]; exact h10
        clear h10
        have HK := Aside0.mk (show actB t.f2 ac lo hi = false from by have h1 := P1.out; have h2 := P2.out; have h3 := P3.out; have h7 := P7.out; have h8 := P8.out; have h9 := P9.out; have h10 := P10.out; rw [HE.out]; simp [eq_self, h1, h2, h3, h7, h8, h9, h10] <;> omega)
        go_wp2_with fail
        go_quiet (fail)
        go_wp2_with fail
        go_ret
        exact ⟨ret_b HK.out, HB.out.trans ((drewN_below _ _).mono HB.out.size)⟩
       ·have P10 := Aside0.mk h10
        have b10 : (ac.f2 == 0) = false := by rw [beq_eq_false_iff_ne]; exact h10
        have b10x : (ac.f2 != 0) = true := by rw [bne_iff_ne]; exact h10
        clear h10
        obtain ⟨u, ad2, A6, c6, hu, e, HA, _⟩ := task_at HS.out.tb.tk q hql
        rw [e] at q2
        rw [Int.toNat_natCast, hu] at HE
        have g4 := HA.g4
        have HQL := Aside0.mk hql
        clear hu e HA
        by_cases h11 : bits .andNot .u32 ac.f2 u.f4 = 0
        ·have P11 := Aside0.mk h11
         have b11 : (bits .andNot .u32 ac.f2 u.f4 == 0) = true := by rw [beq_iff_eq]; exact h11
         have b11x : (bits .andNot .u32 ac.f2 u.f4 != 0) = false := by rw [bne_eq_false_iff_eq]; exact h11
         clear h11
         have HK := Aside0.mk (show actB t.f2 ac lo hi = true from by have h1 := P1.out; have h2 := P2.out; have h3 := P3.out; have h7 := P7.out; have h8 := P8.out; have h9 := P9.out; have h10 := P10.out; have h11 := P11.out; rw [HE.out]; simp [eq_self, h1, h2, h3, h7, h8, h9, h10, h11] <;> omega)
         go_wp2_with fail
         go_quiet (fail)
         go_wp2_with fail
         go_ret
         exact ⟨ret_b HK.out, HB.out.trans ((drewN_below _ _).mono HB.out.size)⟩
        ·have P11 := Aside0.mk h11
         have b11 : (bits .andNot .u32 ac.f2 u.f4 == 0) = false := by rw [beq_eq_false_iff_ne]; exact h11
         have b11x : (bits .andNot .u32 ac.f2 u.f4 != 0) = true := by rw [bne_iff_ne]; exact h11
         clear h11
         have HK := Aside0.mk (show actB t.f2 ac lo hi = false from by have h1 := P1.out; have h2 := P2.out; have h3 := P3.out; have h7 := P7.out; have h8 := P8.out; have h9 := P9.out; have h10 := P10.out; have h11 := P11.out; rw [HE.out]; simp [eq_self, h1, h2, h3, h7, h8, h9, h10, h11] <;> omega)
         go_wp2_with fail
         go_quiet (fail)
         go_wp2_with fail
         go_ret
         exact ⟨ret_b HK.out, HB.out.trans ((drewN_below _ _).mono HB.out.size)⟩
    ·have P7 := Aside0.mk h7
     have b7 : (ac.f0 == 2) = false := by rw [beq_eq_false_iff_ne]; exact h7
     have b7x : (ac.f0 != 2) = true := by rw [bne_iff_ne]; exact h7
     clear h7
     by_cases h12 : ac.f1 = 0
     ·have P12 := Aside0.mk h12
      have b12 : (ac.f1 == 0) = true := by rw [beq_iff_eq]; exact h12
      have b12x : (ac.f1 != 0) = false := by rw [bne_eq_false_iff_eq]; exact h12
      clear h12
      by_cases h13 : ac.f2 = 0
      ·have P13 := Aside0.mk h13
       have b13 : (ac.f2 == 0) = true := by rw [beq_iff_eq]; exact h13
       have b13x : (ac.f2 != 0) = false := by rw [bne_eq_false_iff_eq]; exact h13
       clear h13
       have HK := Aside0.mk (show actB t.f2 ac lo hi = true from by have h1 := P1.out; have h2 := P2.out; have h3 := P3.out; have h7 := P7.out; have h12 := P12.out; have h13 := P13.out; rw [HE.out]; simp [eq_self, h1, h2, h3, h7, h12, h13] <;> omega)
       go_wp2_with fail
       go_ret
       exact ⟨ret_b HK.out, HB.out⟩
      ·have P13 := Aside0.mk h13
       have b13 : (ac.f2 == 0) = false := by rw [beq_eq_false_iff_ne]; exact h13
       have b13x : (ac.f2 != 0) = true := by rw [bne_iff_ne]; exact h13
       clear h13
       have HK := Aside0.mk (show actB t.f2 ac lo hi = false from by have h1 := P1.out; have h2 := P2.out; have h3 := P3.out; have h7 := P7.out; have h12 := P12.out; have h13 := P13.out; rw [HE.out]; simp [eq_self, h1, h2, h3, h7, h12, h13] <;> omega)
       go_wp2_with fail
       go_ret
       exact ⟨ret_b HK.out, HB.out⟩
     ·have P12 := Aside0.mk h12
      have b12 : (ac.f1 == 0) = false := by rw [beq_eq_false_iff_ne]; exact h12
      have b12x : (ac.f1 != 0) = true := by rw [bne_iff_ne]; exact h12
      clear h12
      have HK := Aside0.mk (show actB t.f2 ac lo hi = false from by have h1 := P1.out; have h2 := P2.out; have h3 := P3.out; have h7 := P7.out; have h12 := P12.out; rw [HE.out]; simp [eq_self, h1, h2, h3, h7, h12] <;> omega)
      go_wp2_with fail
      go_ret
      exact ⟨ret_b HK.out, HB.out⟩
end Go.Proofs.Ytbgcemijihpakaa.XA
end
