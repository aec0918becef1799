/- the document's small functions of layer 7: rises, has, Root; both sides' Extended. -/
import Derived.Test.YthckjbmgeidkgaaDoorHLow
namespace Go.Proofs.YthckjbmgeidkgaaDoor.XA
set_option linter.unusedVariables false
set_option linter.unusedSimpArgs false
open Go.RowKit Go.WideMaps Go.Maps Go.Proofs.YthckjbmgeidkgaaDoorW.PrintWords Go.Proofs.YthckjbmgeidkgaaDoorW.PrintLast Go.Proofs.YthckjbmgeidkgaaDoorW.PrintMore
set_option maxRecDepth 1000000 in
set_option maxHeartbeats 4000000 in
theorem rises_calls (A : Option Addr) (c : Nat) (l : List Int) (n : Int) (w : World) (hl : (Kd.int .i64).C w A l.length l) (hc : l.length ≤ c) : Calls Tryd.prog 85 #[.slice A l.length c, .int .i64 n] w fun e w' => e = .returned (.bool (riseB n l)) ∧ Below w.heap.size w w' := by
  have HL := Aside0.mk hl
  have hlen := hl.2.1
  clear hl
  go_enter Tryd.func85, Tryd.ntmps85
  go_wp2_with fail
  go_loopw [5] (fun i wr => ∃ k : Nat, k ≤ l.length ∧ i = .int .i64 k ∧ Aside0 (∀ j, j < k → riseAt n l j = true) ∧ Aside0 (Below w.heap.size w wr)) (fun i _ => l.length - (intOf i).toNat)
  case atStart => exact ⟨0, by omega, rfl, ⟨fun j hj => by omega⟩, ⟨Below.refl _ _⟩⟩
  case round =>
    obtain ⟨k, hk, rfl, HR, HB⟩ := hrel
    by_cases hlt : k < l.length
    · have hd : decide ((k : Int) < (l.length : Int)) = true := decide_eq_true (by omega)
      obtain ⟨ad, rfl, hc0⟩ := (Kd.reads_of_C (d := (0 : Int)) (Kd.C_below HL.out HB.out)).2.2 (by omega)
      have hx := hc0 k hlt
      have HNX := Aside0.mk (fun h : riseAt n l k = true => show ∀ j, j < k + 1 → riseAt n l j = true from fun j hj => by
        rcases Nat.lt_succ_iff_lt_or_eq.mp hj with h1 | rfl
        · exact HR.out j h1
        · exact h)
      have HNO := Aside0.mk (fun h : riseAt n l k = false => rise_no k hlt h)
      have HE := Aside0.mk (show riseAt n l k = (decide (0 ≤ l.getD k 0) && decide (l.getD k 0 < n) && (decide (k = 0) || decide (l.getD (k - 1) 0 < l.getD k 0))) from rfl)
      go_wp2_with fail
      by_cases hk0 : k = 0
      · subst hk0
        have hx : wr.cell? ad = some (.int .i64 (l.getD 0 0)) := hx
        clear hc0
        generalize l.getD 0 0 = x at *
        rcases h1 : decide (x < 0) with _ | _
        · rcases h2 : decide (n ≤ x) with _ | _
          · have h1' := of_decide_eq_false h1
            have h2' := of_decide_eq_false h2
            have HT := Aside0.mk (HNX.out (by rw [HE.out]; simp; omega))
            clear h1' h2' HNO HE HNX HR
            go_quiet (fail)
            go_wp2_with fail
            go_roundw
            case rel => exact ⟨1, by omega, rfl, HT, ⟨HB.out.trans ((drewN_below _ _).mono HB.out.size)⟩⟩
            case measure => simp [intOf]; omega
          · have HT := Aside0.mk (HNO.out (by rw [HE.out]; have := of_decide_eq_true h2; simp; omega))
            clear HNO HE HNX HR
            go_quiet (fail)
            go_wp2_with fail
            go_ret
            exact ⟨by rw [HT.out] <;> rfl, HB.out.trans ((drewN_below _ _).mono HB.out.size)⟩
        · have HT := Aside0.mk (HNO.out (by rw [HE.out]; have := of_decide_eq_true h1; simp; omega))
          clear HNO HE HNX HR
          go_quiet (fail)
          go_wp2_with fail
          go_ret
          exact ⟨by rw [HT.out] <;> rfl, HB.out.trans ((drewN_below _ _).mono HB.out.size)⟩
      · have hy := hc0 (k - 1) (by omega)
        have hw : IntKind.i64.wrap ((k : Int) - 1) = ((k - 1 : Nat) : Int) := by rw [IntWalk.i64_in _ (by omega)]; omega
        have hk1 : decide ((0 : Int) < (k : Int)) = true := decide_eq_true (by omega)
        have hk2 : decide (0 < k) = true := decide_eq_true (by omega)
        have hk3 : 0 < k := by omega
        have hk4 : k - 1 < l.length := by omega
        clear hc0
        generalize l.getD k 0 = x at *
        generalize l.getD (k - 1) 0 = y at *
        rcases h1 : decide (x < 0) with _ | _
        · rcases h2 : decide (n ≤ x) with _ | _
          · rcases h3 : decide (x ≤ y) with _ | _
            · have h1' := of_decide_eq_false h1
              have h2' := of_decide_eq_false h2
              have h3' := of_decide_eq_false h3
              have HT := Aside0.mk (HNX.out (by rw [HE.out]; simp; omega))
              clear h1' h2' h3' HNO HE HNX HR
              go_quiet (fail)
              go_wp2_with fail
              go_roundw
              case rel => exact ⟨k + 1, by omega, by go_num, HT, ⟨HB.out.trans ((drewN_below _ _).mono HB.out.size)⟩⟩
              case measure => simp [intOf]; omega
            · have HT := Aside0.mk (HNO.out (by rw [HE.out]; have := of_decide_eq_true h3; simp; omega))
              clear HNO HE HNX HR
              go_quiet (fail)
              go_wp2_with fail
              go_ret
              exact ⟨by rw [HT.out] <;> rfl, HB.out.trans ((drewN_below _ _).mono HB.out.size)⟩
          · have HT := Aside0.mk (HNO.out (by rw [HE.out]; have := of_decide_eq_true h2; simp; omega))
            clear HNO HE HNX HR
            go_quiet (fail)
            go_wp2_with fail
            go_ret
            exact ⟨by rw [HT.out] <;> rfl, HB.out.trans ((drewN_below _ _).mono HB.out.size)⟩
        · have HT := Aside0.mk (HNO.out (by rw [HE.out]; have := of_decide_eq_true h1; simp; omega))
          clear HNO HE HNX HR
          go_quiet (fail)
          go_wp2_with fail
          go_ret
          exact ⟨by rw [HT.out] <;> rfl, HB.out.trans ((drewN_below _ _).mono HB.out.size)⟩
    · have hd : decide ((k : Int) < (l.length : Int)) = false := decide_eq_false (by omega)
      have HT := Aside0.mk (rise_yes (n := n) (l := l) (fun i hi => HR.out i (by omega)))
      clear HR
      go_wp2_with fail
      go_ret
      exact ⟨by rw [HT.out] <;> rfl, HB.out⟩
set_option maxRecDepth 1000000 in
set_option maxHeartbeats 4000000 in
theorem has_calls (A : Option Addr) (c : Nat) (l : List Int) (n : Int) (w : World) (hl : (Kd.int .i64).C w A l.length l) (hc : l.length ≤ c) : Calls Tryd.prog 88 #[.slice A l.length c, .int .i64 n] w fun e w' => e = .returned (.bool (decide (n ∈ l))) ∧ w' = w := by
  have HL := Aside0.mk hl
  have hlen := hl.2.1
  clear hl
  go_enter Tryd.func88, Tryd.ntmps88
  go_wp2_with fail
  go_loop [5] (fun i => ∃ k : Nat, k ≤ l.length ∧ i = .int .i64 k ∧ Aside0 (∀ j, j < k → l.getD j 0 ≠ n)) (fun i => l.length - (intOf i).toNat)
  case atStart => exact ⟨0, by omega, rfl, ⟨fun j hj => by omega⟩⟩
  case round =>
    obtain ⟨k, hk, rfl, HR⟩ := hrel
    by_cases hlt : k < l.length
    · have hd : decide ((k : Int) < (l.length : Int)) = true := decide_eq_true (by omega)
      obtain ⟨ad, rfl, hc0⟩ := (Kd.reads_of_C (d := (0 : Int)) HL.out).2.2 (by omega)
      have hx := hc0 k hlt
      clear hc0
      by_cases he : l.getD k 0 = n
      · have hb : (l.getD k 0 == n) = true := by rw [beq_iff_eq]; exact he
        have HT := Aside0.mk (show decide (n ∈ l) = true from decide_eq_true (by
          rw [← he, List.getD_eq_getElem?_getD, List.getElem?_eq_getElem hlt]
          exact List.getElem_mem hlt))
        clear he HR
        generalize l.getD k 0 = x at *
        go_wp2_with fail
        go_ret
        exact ⟨by rw [HT.out] <;> rfl, rfl⟩
      · have hb : (l.getD k 0 == n) = false := by rw [beq_eq_false_iff_ne]; exact he
        have HT := Aside0.mk (show ∀ j, j < k + 1 → l.getD j 0 ≠ n from fun j hj => by
          rcases Nat.lt_succ_iff_lt_or_eq.mp hj with h1 | rfl
          · exact HR.out j h1
          · exact he)
        clear he HR
        generalize l.getD k 0 = x at *
        go_wp2_with fail
        go_round
        case rel => exact ⟨k + 1, by omega, by go_num, HT⟩
        case measure => simp [intOf]; omega
    · have hd : decide ((k : Int) < (l.length : Int)) = false := decide_eq_false (by omega)
      have HT := Aside0.mk (show decide (n ∈ l) = false from decide_eq_false (by
        intro h
        obtain ⟨j, hj, e⟩ := List.getElem_of_mem h
        exact HR.out j (by omega) (by rw [List.getD_eq_getElem?_getD, List.getElem?_eq_getElem hj]; exact e)))
      clear HR
      go_wp2_with fail
      go_ret
      exact ⟨by rw [HT.out] <;> rfl, rfl⟩
set_option maxRecDepth 1000000 in
set_option maxHeartbeats 4000000 in
theorem rootR_calls (V : CV) (c : S33) (r : Int) (w : World) (h : Cf w V c) : Calls Tryd.prog 15 #[.agg (arr V c), .int .i64 r] w fun e w' => e = .returned (.int .i64 (rootV c.f4 r)) ∧ Below w.heap.size w w' := by
  have HX := Aside0.mk (At.made h)
  have hlen := h.bd.r
  have HB := Aside0.mk (show Below w.heap.size w (w.alloc (.cells (arr V c) 33)) from (Below.refl _ _).alloc (Nat.le_refl _) _)
  clear h
  unfold arr at HX HB ⊢
  have HRV := Aside0.mk (show rootI c.f4 (c.f4.length + 1 - 0) r = rootV c.f4 r from rfl)
  go_enter Tryd.func15, Tryd.ntmps15
  go_wp2_with fail
  generalize w.alloc (.cells #[.string c.f0, .string c.f1.f0, .bool c.f1.f1, .bool c.f1.f2, .bool c.f1.f3, .bool c.f1.f4, .bool c.f1.f5, .bool c.f1.f6, .bool c.f1.f7, .bool c.f1.f8, .slice V.a10 c.f2.length V.k10, .slice V.a11 c.f3.length V.k11, .slice V.a12 c.f4.length V.k12, .slice V.a13 c.f5.length V.k13, .slice V.a14 c.f6.length V.k14, .slice V.a15 c.f7.length V.k15, .slice V.a16 c.f8.length V.k16, .slice V.a17 c.f9.length V.k17] 33) = w0 at *
  generalize hrv : rootV c.f4 r = rv at *
  go_loop [5, 6] (fun x i => ∃ (k : Nat) (q : Int), k ≤ c.f4.length + 1 ∧ x = .int .i64 q ∧ i = .int .i64 k ∧ Aside0 (rootI c.f4 (c.f4.length + 1 - k) q = rv)) (fun _ i => c.f4.length + 1 - (intOf i).toNat)
  case atStart => exact ⟨0, r, by omega, rfl, rfl, HRV⟩
  case round =>
    clear HRV
    obtain ⟨k, q, hk, rfl, rfl, HR⟩ := hrel
    have q12 := HX.out.cell12
    by_cases hlt : k < c.f4.length + 1
    · have hd : decide ((k : Int) ≤ (c.f4.length : Int)) = true := decide_eq_true (by omega)
      obtain ⟨m, hm⟩ : ∃ m, c.f4.length + 1 - k = m + 1 := ⟨c.f4.length - k, by omega⟩
      have HR := Aside0.mk (show (if q < 0 ∨ (c.f4.length : Int) ≤ q then -1 else if kindR c.f4 q.toNat ≠ 2 then q else rootI c.f4 m (linkR c.f4 q.toNat)) = rv from by have := HR.out; rw [hm] at this; exact this)
      have hmk : m = c.f4.length + 1 - (k + 1) := by omega
      subst hmk
      clear hm
      by_cases h0 : q < 0
      · have hd0 : decide (q < 0) = true := decide_eq_true h0
        have HT := Aside0.mk (show (-1 : Int) = rv from by have := HR.out; rw [if_pos (.inl h0)] at this; exact this)
        clear HR h0
        go_wp2_with fail
        go_ret
        exact ⟨by rw [← HT.out] <;> rfl, HB.out⟩
      · obtain ⟨p, rfl⟩ : ∃ p : Nat, q = p := ⟨q.toNat, by omega⟩
        have hd0 : decide ((p : Int) < 0) = false := decide_eq_false h0
        by_cases h1 : c.f4.length ≤ p
        · have hd1 : decide ((c.f4.length : Int) ≤ (p : Int)) = true := decide_eq_true (by omega)
          have HT := Aside0.mk (show (-1 : Int) = rv from by have := HR.out; rw [if_pos (.inr (by omega))] at this; exact this)
          clear HR h0
          go_wp2_with fail
          go_ret
          exact ⟨by rw [← HT.out] <;> rfl, HB.out⟩
        · have hd1 : decide ((c.f4.length : Int) ≤ (p : Int)) = false := decide_eq_false (by omega)
          have HR := Aside0.mk (show (if kindR c.f4 p ≠ 2 then (p : Int) else rootI c.f4 (c.f4.length + 1 - (k + 1)) (linkR c.f4 p)) = rv from by have := HR.out; rw [if_neg (by omega), Int.toNat_natCast] at this; exact this)
          obtain ⟨t, ad, ht, e, HA⟩ := res_at HX.out.cf.r p (by omega)
          have g1 := HA.g1
          have g2 := HA.g2
          rw [e] at q12
          unfold kindR linkR at HR
          rw [ht] at HR
          have hp : p < c.f4.length := by omega
          clear ht e HA h0
          obtain ⟨kd, hkd⟩ : ∃ kd, t.f1 = kd := ⟨_, rfl⟩
          obtain ⟨lk, hlk⟩ : ∃ lk, t.f2 = lk := ⟨_, rfl⟩
          rw [hkd] at g1 HR
          rw [hlk] at g2 HR
          clear hkd hlk
          by_cases ck : kd = 2
          · have cb : (kd != 2) = false := by simp [ck]
            have HT := Aside0.mk (show rootI c.f4 (c.f4.length + 1 - (k + 1)) lk = rv from by have := HR.out; rw [if_neg (fun e => e ck)] at this; exact this)
            clear HR ck
            go_wp2_with fail
            go_round
            case rel => exact ⟨k + 1, lk, by omega, rfl, by go_num, HT⟩
            case measure => simp [intOf]; omega
          · have cb : (kd != 2) = true := by simp [ck]
            have HT := Aside0.mk (show (p : Int) = rv from by have := HR.out; rw [if_pos ck] at this; exact this)
            clear HR ck
            go_wp2_with fail
            go_ret
            exact ⟨by rw [← HT.out] <;> rfl, HB.out⟩
    · have hd : decide ((k : Int) ≤ (c.f4.length : Int)) = false := decide_eq_false (by omega)
      have HT := Aside0.mk (show (-1 : Int) = rv from by have := HR.out; rw [show c.f4.length + 1 - k = 0 by omega] at this; exact this)
      clear HR
      go_wp2_with fail
      go_ret
      exact ⟨by rw [← HT.out] <;> rfl, HB.out⟩
/-! ### Extended -/
def extV (c : S33) (n : Int) : Bool := decide (0 ≤ n) && decide (n < c.f3.length) && decide (0 < (c.f3.getD n.toNat z49).f6.length)
set_option maxRecDepth 1000000 in
set_option maxHeartbeats 4000000 in
theorem ext_calls (f : Nat) (hf : f = 12 ∨ f = 13) (V : CV) (c : S33) (n : Int) (w : World) (h : Cf w V c) : Calls Tryd.prog f #[.agg (arr V c), .int .i64 n] w fun e w' => e = .returned (.bool (extV c n)) ∧ Below w.heap.size w w' := by
  have HX := Aside0.mk (At.made h)
  have HB := Aside0.mk (show Below w.heap.size w (w.alloc (.cells (arr V c) 33)) from (Below.refl _ _).alloc (Nat.le_refl _) _)
  clear h
  unfold arr at HX HB ⊢
  by_cases h0 : n < 0
  · have hd0 : decide (0 ≤ n) = false := decide_eq_false (by omega)
    have HT := Aside0.mk (show extV c n = false from by unfold extV; rw [hd0]; rfl)
    rcases hf with rfl | rfl
    · go_enter Tryd.func12, Tryd.ntmps12
      go_wp2_with fail
      go_ret
      exact ⟨by rw [HT.out] <;> rfl, HB.out⟩
    · go_enter Tryd.func13, Tryd.ntmps13
      go_wp2_with fail
      go_ret
      exact ⟨by rw [HT.out] <;> rfl, HB.out⟩
  · obtain ⟨p, rfl⟩ : ∃ p : Nat, n = p := ⟨n.toNat, by omega⟩
    have hd0 : decide ((0 : Int) ≤ (p : Int)) = true := decide_eq_true (by omega)
    have q11 := HX.out.cell11
    by_cases h1 : p < c.f3.length
    · have hd1 : decide ((p : Int) < (c.f3.length : Int)) = true := decide_eq_true (by omega)
      obtain ⟨t, ad, A4, c4, A5, c5, A6, c6, A7, c7, ht, e, HA, _⟩ := task_at HX.out.cf.t p h1
      have g6 := HA.g6
      have HT := Aside0.mk (show extV c p = decide (0 < t.f6.length) from by unfold extV; rw [hd0, hd1, Int.toNat_natCast, ht]; rfl)
      have h2 : decide ((0 : Int) < (t.f6.length : Int)) = decide (0 < t.f6.length) := by simp
      clear ht HA h0 q11 HX
      rw [e] at g6 HB ⊢
      clear e
      generalize t.f6.length = m at *
      rcases hf with rfl | rfl
      · go_enter Tryd.func12, Tryd.ntmps12
        go_wp2_with fail
        go_ret
        exact ⟨by rw [HT.out, ← h2] <;> rfl, HB.out⟩
      · go_enter Tryd.func13, Tryd.ntmps13
        go_wp2_with fail
        go_ret
        exact ⟨by rw [HT.out, ← h2] <;> rfl, HB.out⟩
    · have hd1 : decide ((p : Int) < (c.f3.length : Int)) = false := decide_eq_false (by omega)
      have HT := Aside0.mk (show extV c p = false from by unfold extV; rw [hd0, hd1]; rfl)
      rcases hf with rfl | rfl
      · go_enter Tryd.func12, Tryd.ntmps12
        go_wp2_with fail
        go_ret
        exact ⟨by rw [HT.out] <;> rfl, HB.out⟩
      · go_enter Tryd.func13, Tryd.ntmps13
        go_wp2_with fail
        go_ret
        exact ⟨by rw [HT.out] <;> rfl, HB.out⟩
end Go.Proofs.YthckjbmgeidkgaaDoor.XA
