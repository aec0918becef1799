/- the small functions of package class: unless, isTick, rise, internals, Contains, Root. -/
import Derived.Test.YthckjbmgeidkgaaDoorHCfg
namespace Go.Proofs.YthckjbmgeidkgaaDoor.XA
set_option linter.unusedVariables false
set_option linter.unusedSimpArgs false
open Go.RowKit Go.WideMaps Go.Maps Go.Proofs.YthckjbmgeidkgaaDoorW.PrintWords Go.Proofs.YthckjbmgeidkgaaDoorW.PrintLast Go.Proofs.YthckjbmgeidkgaaDoorW.PrintMore
theorem unless_calls (b : Bool) (v : Int) (w : World) : Calls Tryd.prog 38 #[.bool b, .int .i64 v] w fun e w' => e = .returned (.int .i64 (if b then 0 else v)) ∧ w' = w := by
  cases b
  all_goals
    go_enter Tryd.func38, Tryd.ntmps38
    go_wp2_with fail
    go_ret
    exact ⟨rfl, rfl⟩
theorem tick_calls (n : Int) (w : World) : Calls Tryd.prog 79 #[.int .u32 n] w fun e w' => e = .returned (.bool (decide (1 ≤ n) && decide (n ≤ 2147483647))) ∧ w' = w := by
  rcases h1 : decide (1 ≤ n) with _ | _ <;> rcases h2 : decide (n ≤ 2147483647) with _ | _
  all_goals
    go_enter Tryd.func79, Tryd.ntmps79
    go_wp2_with fail
    go_ret
    exact ⟨rfl, rfl⟩
/-- does a list of ids below n rise, at a place? -/
def riseAt (n : Int) (l : List Int) (i : Nat) : Bool := decide (0 ≤ l.getD i 0) && decide (l.getD i 0 < n) && (decide (i = 0) || decide (l.getD (i - 1) 0 < l.getD i 0))
def riseB (n : Int) (l : List Int) : Bool := (List.range l.length).all (riseAt n l)
theorem rise_no {n : Int} {l : List Int} (k : Nat) (hk : k < l.length) (h : riseAt n l k = false) : riseB n l = false := by
  unfold riseB
  rw [Bool.eq_false_iff]
  intro h1
  rw [List.all_eq_true] at h1
  rw [h1 k (List.mem_range.mpr hk)] at h
  cases h
theorem rise_yes {n : Int} {l : List Int} (h : ∀ i, i < l.length → riseAt n l i = true) : riseB n l = true := by
  unfold riseB
  rw [List.all_eq_true]
  exact fun i hi => h i (List.mem_range.mp hi)
theorem rise_mem {n : Int} {l : List Int} (h : riseB n l = true) : ∀ x ∈ l, 0 ≤ x ∧ x < n := by
  intro x hx
  obtain ⟨i, hi, rfl⟩ := List.getElem_of_mem hx
  unfold riseB at h
  rw [List.all_eq_true] at h
  have := h i (List.mem_range.mpr hi)
  unfold riseAt at this
  rw [List.getD_eq_getElem?_getD, List.getElem?_eq_getElem hi] at this
  simp at this
  omega
set_option maxRecDepth 1000000 in
set_option maxHeartbeats 4000000 in
theorem rise_calls (A : Option Addr) (c : Nat) (l : List Int) (n : Int) (w : World) (hl : (Kd.int .i64).C w A l.length l) (hc : l.length ≤ c) : Calls Tryd.prog 77 #[.slice A l.length c, .int .i64 n] w fun e w' => e = .returned (.bool (riseB n l)) ∧ w' = w := by
  have HL := Aside0.mk hl
  have hlen := hl.2.1
  clear hl
  go_enter Tryd.func77, Tryd.ntmps77
  go_wp2_with fail
  go_loop [9] (fun i => ∃ k : Nat, k ≤ l.length ∧ i = .int .i64 k ∧ Aside0 (∀ j, j < k → riseAt n l j = true)) (fun i => l.length - (intOf i).toNat)
  case atStart => exact ⟨0, by omega, rfl, ⟨fun j hj => by omega⟩⟩
  case round =>
    obtain ⟨k, hk, rfl, HR⟩ := hrel
    by_cases hlt : k < l.length
    · have hd : decide ((k : Int) < (l.length : Int)) = true := decide_eq_true (by omega)
      obtain ⟨ad, rfl, hc0⟩ := (Kd.reads_of_C (d := (0 : Int)) HL.out).2.2 (by omega)
      have hx := hc0 k hlt
      have HNX := Aside0.mk (fun h : riseAt n l k = true => show ∀ j, j < k + 1 → riseAt n l j = true from fun j hj => by
        rcases Nat.lt_succ_iff_lt_or_eq.mp hj with h1 | rfl
        · exact HR.out j h1
        · exact h)
      have HNO := Aside0.mk (fun h : riseAt n l k = false => rise_no k hlt h)
      have HE := Aside0.mk (show riseAt n l k = (decide (0 ≤ l.getD k 0) && decide (l.getD k 0 < n) && (decide (k = 0) || decide (l.getD (k - 1) 0 < l.getD k 0))) from rfl)
      by_cases hk0 : k = 0
      · subst hk0
        have hx : w.cell? ad = some (.int .i64 (l.getD 0 0)) := hx
        clear hc0
        generalize l.getD 0 0 = x at *
        rcases h1 : decide (x < 0) with _ | _
        · rcases h2 : decide (n ≤ x) with _ | _
          · have h1 := of_decide_eq_false h1
            have h2 := of_decide_eq_false h2
            have HT := Aside0.mk (HNX.out (by rw [HE.out]; simp; omega))
            have d1 : decide (x < 0) = false := decide_eq_false h1
            have d2 : decide (n ≤ x) = false := decide_eq_false h2
            clear h1 h2 HNO HE HNX HR
            go_wp2_with fail
            go_round
            case rel => exact ⟨1, by omega, rfl, HT⟩
            case measure => simp [intOf]; omega
          · have HT := Aside0.mk (HNO.out (by rw [HE.out]; have := of_decide_eq_true h2; simp; omega))
            clear HNO HE HNX HR
            go_wp2_with fail
            go_ret
            exact ⟨by rw [HT.out] <;> rfl, rfl⟩
        · have HT := Aside0.mk (HNO.out (by rw [HE.out]; have := of_decide_eq_true h1; simp; omega))
          clear HNO HE HNX HR
          go_wp2_with fail
          go_ret
          exact ⟨by rw [HT.out] <;> rfl, rfl⟩
      · have hy := hc0 (k - 1) (by omega)
        have hw : IntKind.i64.wrap ((k : Int) - 1) = ((k - 1 : Nat) : Int) := by rw [IntWalk.i64_in _ (by omega)]; omega
        have hk1 : decide ((0 : Int) < (k : Int)) = true := decide_eq_true (by omega)
        clear hc0
        generalize l.getD k 0 = x at *
        generalize l.getD (k - 1) 0 = y at *
        rcases h1 : decide (x < 0) with _ | _
        · rcases h2 : decide (n ≤ x) with _ | _
          · rcases h3 : decide (x ≤ y) with _ | _
            · have h1' := of_decide_eq_false h1
              have h2' := of_decide_eq_false h2
              have h3' := of_decide_eq_false h3
              have HT := Aside0.mk (HNX.out (by rw [HE.out]; simp; omega))
              clear h1' h2' h3' HNO HE HNX HR
              go_wp2_with fail
              go_round
              case rel => exact ⟨k + 1, by omega, by go_num, HT⟩
              case measure => simp [intOf]; omega
            · have HT := Aside0.mk (HNO.out (by rw [HE.out]; have := of_decide_eq_true h3; simp; omega))
              clear HNO HE HNX HR
              go_wp2_with fail
              go_ret
              exact ⟨by rw [HT.out] <;> rfl, rfl⟩
          · have HT := Aside0.mk (HNO.out (by rw [HE.out]; have := of_decide_eq_true h2; simp; omega))
            clear HNO HE HNX HR
            go_wp2_with fail
            go_ret
            exact ⟨by rw [HT.out] <;> rfl, rfl⟩
        · have HT := Aside0.mk (HNO.out (by rw [HE.out]; have := of_decide_eq_true h1; simp; omega))
          clear HNO HE HNX HR
          go_wp2_with fail
          go_ret
          exact ⟨by rw [HT.out] <;> rfl, rfl⟩
    · have hd : decide ((k : Int) < (l.length : Int)) = false := decide_eq_false (by omega)
      have HT := Aside0.mk (rise_yes (n := n) (l := l) (fun i hi => HR.out i (by omega)))
      clear HR
      go_wp2_with fail
      go_ret
      exact ⟨by rw [HT.out] <;> rfl, rfl⟩
set_option maxRecDepth 1000000 in
set_option maxHeartbeats 4000000 in
theorem index_calls (A : Option Addr) (c : Nat) (l : List Int) (n : Int) (w : World) (hl : (Kd.int .i64).C w A l.length l) (hc : l.length ≤ c) : Calls Tryd.prog 87 #[.slice A l.length c, .int .i64 n] w fun e w' => ∃ i : Int, e = .returned (.int .i64 i) ∧ (0 ≤ i ↔ n ∈ l) ∧ w' = w := by
  have HL := Aside0.mk hl
  have hlen := hl.2.1
  clear hl
  go_enter Tryd.func87, Tryd.ntmps87
  go_wp2_with fail
  go_loop [8] (fun i => ∃ k : Nat, k ≤ l.length ∧ i = .int .i64 k ∧ Aside0 (∀ j, j < k → l.getD j 0 ≠ n)) (fun i => l.length - (intOf i).toNat)
  case atStart => exact ⟨0, by omega, rfl, ⟨fun j hj => by omega⟩⟩
  case round =>
    obtain ⟨k, hk, rfl, HR⟩ := hrel
    by_cases hlt : k < l.length
    · have hd : decide ((k : Int) < (l.length : Int)) = true := decide_eq_true (by omega)
      obtain ⟨ad, rfl, hc0⟩ := (Kd.reads_of_C (d := (0 : Int)) HL.out).2.2 (by omega)
      have hx := hc0 k hlt
      clear hc0
      by_cases he : n = l.getD k 0
      · have hb : (n == l.getD k 0) = true := by simp [he]
        have HT := Aside0.mk (show n ∈ l from by
          rw [he, List.getD_eq_getElem?_getD, List.getElem?_eq_getElem hlt]
          exact List.getElem_mem hlt)
        clear he HR
        generalize l.getD k 0 = x at *
        go_wp2_with fail
        go_ret
        exact ⟨k, rfl, ⟨fun _ => HT.out, fun _ => by omega⟩, rfl⟩
      · have hb : (n == l.getD k 0) = false := by rw [beq_eq_false_iff_ne]; exact he
        have HT := Aside0.mk (show ∀ j, j < k + 1 → l.getD j 0 ≠ n from fun j hj => by
          rcases Nat.lt_succ_iff_lt_or_eq.mp hj with h1 | rfl
          · exact HR.out j h1
          · exact fun e => he e.symm)
        clear he HR
        generalize l.getD k 0 = x at *
        go_wp2_with fail
        go_round
        case rel => exact ⟨k + 1, by omega, by go_num, HT⟩
        case measure => simp [intOf]; omega
    · have hd : decide ((k : Int) < (l.length : Int)) = false := decide_eq_false (by omega)
      have HT := Aside0.mk (show ¬ n ∈ l from by
        intro h
        obtain ⟨j, hj, e⟩ := List.getElem_of_mem h
        exact HR.out j (by omega) (by rw [List.getD_eq_getElem?_getD, List.getElem?_eq_getElem hj]; exact e))
      clear HR
      go_wp2_with fail
      go_ret
      exact ⟨-1, rfl, ⟨fun h => by omega, fun h => (HT.out h).elim⟩, rfl⟩
theorem contains_calls (A : Option Addr) (c : Nat) (l : List Int) (n : Int) (w : World) (hl : (Kd.int .i64).C w A l.length l) (hc : l.length ≤ c) : Calls Tryd.prog 81 #[.slice A l.length c, .int .i64 n] w fun e w' => e = .returned (.bool (decide (n ∈ l))) ∧ w' = w := by
  go_enter Tryd.func81, Tryd.ntmps81
  have HL := Aside0.mk hl
  clear hl
  go_wp2_with fail
  refine (index_calls A c l n w HL.out hc).mono ?_
  rintro e w' ⟨i, rfl, hi, rfl⟩
  have hd : decide (0 ≤ i) = decide (n ∈ l) := by simp [hi]
  go_wp2_with fail
  go_ret
  exact ⟨by rw [← hd] <;> rfl, rfl⟩
/-! ### internal resources -/
def kindR (rs : List S65) (i : Nat) : Int := (rs.getD i z65).f1
def linkR (rs : List S65) (i : Nat) : Int := (rs.getD i z65).f2
def cntI (rs : List S65) (l : List Int) : Nat := (l.filter fun r => kindR rs r.toNat == 3).length
theorem cnt_step (rs : List S65) (l : List Int) (k : Nat) (h : k < l.length) : cntI rs (l.take (k + 1)) = cntI rs (l.take k) + (if kindR rs (l.getD k 0).toNat = 3 then 1 else 0) := by
  unfold cntI
  rw [List.take_succ_eq_append_getElem h, List.filter_append, List.length_append, List.getD_eq_getElem?_getD, List.getElem?_eq_getElem h]
  congr 1
  by_cases c : kindR rs (l[k]).toNat = 3 <;> simp [c]
theorem cnt_le (rs : List S65) (l : List Int) : cntI rs l ≤ l.length := List.length_filter_le _ _
set_option maxRecDepth 1000000 in
set_option maxHeartbeats 4000000 in
theorem internals_calls (B : Nat) (V : CV) (c : S33) (A : Option Addr) (cc : Nat) (l : List Int) (w : World) (h : At w B V c) (hl : (Kd.int .i64).C w A l.length l) (hc : l.length ≤ cc) (hr : ∀ r ∈ l, 0 ≤ r ∧ r < c.f4.length) :
    Calls Tryd.prog 78 #[.pointer (some ⟨B, 0, none⟩), .slice A l.length cc] w fun e w' => e = .returned (.int .i64 (cntI c.f4 l)) ∧ w = w' := by
  have HX := Aside0.mk h
  have HL := Aside0.mk hl
  have HR := Aside0.mk hr
  have hlen := hl.2.1
  clear h hl hr
  go_enter Tryd.func78, Tryd.ntmps78
  go_wp2_with fail
  go_loop [5, 10] (fun n i => ∃ k : Nat, k ≤ l.length ∧ i = .int .i64 k ∧ n = .int .i64 (cntI c.f4 (l.take k))) (fun _ i => l.length - (intOf i).toNat)
  case atStart => exact ⟨0, by omega, rfl, rfl⟩
  case round =>
    obtain ⟨k, hk, rfl, rfl⟩ := hrel
    by_cases hlt : k < l.length
    · have hd : decide ((k : Int) < (l.length : Int)) = true := decide_eq_true (by omega)
      obtain ⟨ad, rfl, hc0⟩ := (Kd.reads_of_C (d := (0 : Int)) HL.out).2.2 (by omega)
      have hx := hc0 k hlt
      have hst := cnt_step c.f4 l k hlt
      have hle := cnt_le c.f4 (l.take k)
      rw [List.length_take] at hle
      have hmem : l.getD k 0 ∈ l := by rw [List.getD_eq_getElem?_getD, List.getElem?_eq_getElem hlt]; exact List.getElem_mem hlt
      obtain ⟨h0, h1⟩ := HR.out _ hmem
      obtain ⟨r, hr0⟩ := Int.eq_ofNat_of_zero_le h0
      rw [hr0] at hx hst h1
      rw [show ((r : Int)).toNat = r from Int.toNat_natCast r] at hst
      obtain ⟨t, ad2, ht, e2, HA⟩ := res_at HX.out.cf.r r (by omega)
      have g1 := HA.g1
      have q12 := HX.out.cell12
      rw [e2] at q12
      unfold kindR at hst
      rw [ht] at hst
      have HST := Aside0.mk hst
      have hlt2 : r < c.f4.length := by omega
      have hle2 : cntI c.f4 (l.take k) ≤ k := by omega
      clear hc0 hmem h0 h1 hr0 hst hle ht e2 HA
      generalize cntI c.f4 (l.take k) = n at *
      obtain ⟨kd, hkd⟩ : ∃ kd, t.f1 = kd := ⟨_, rfl⟩
      rw [hkd] at g1 HST
      clear hkd
      by_cases ck : kd = 3
      · have cb : (kd == 3) = true := by simp [ck]
        have HN := Aside0.mk (show cntI c.f4 (l.take (k + 1)) = n + 1 by rw [HST.out, if_pos ck])
        clear ck HST
        go_wp2_with fail
        go_round
        case rel => exact ⟨k + 1, by omega, by go_num, by rw [HN.out]; go_num⟩
        case measure => simp [intOf]; omega
      · have cb : (kd == 3) = false := by simp [ck]
        have HN := Aside0.mk (show cntI c.f4 (l.take (k + 1)) = n by rw [HST.out, if_neg ck]; rfl)
        clear ck HST
        go_wp2_with fail
        go_round
        case rel => exact ⟨k + 1, by omega, by go_num, by rw [HN.out]⟩
        case measure => simp [intOf]; omega
    · have hd : decide ((k : Int) < (l.length : Int)) = false := decide_eq_false (by omega)
      have HE := Aside0.mk (show l.take k = l from List.take_of_length_le (by omega))
      go_wp2_with fail
      go_ret
      exact ⟨by rw [HE.out] <;> rfl, rfl⟩
/-! ### Root -/
def rootI (rs : List S65) : Nat → Int → Int
  | 0, _ => -1
  | n + 1, r => if r < 0 ∨ (rs.length : Int) ≤ r then -1 else if kindR rs r.toNat ≠ 2 then r else rootI rs n (linkR rs r.toNat)
def rootV (rs : List S65) (r : Int) : Int := rootI rs (rs.length + 1) r
set_option maxRecDepth 1000000 in
set_option maxHeartbeats 4000000 in
theorem root_calls (V : CV) (c : S33) (r : Int) (w : World) (h : Cf w V c) : Calls Tryd.prog 14 #[.agg (arr V c), .int .i64 r] w fun e w' => e = .returned (.int .i64 (rootV c.f4 r)) ∧ Below w.heap.size w w' := by
  have HX := Aside0.mk (At.made h)
  have hlen := h.bd.r
  have HB := Aside0.mk (show Below w.heap.size w (w.alloc (.cells (arr V c) 33)) from (Below.refl _ _).alloc (Nat.le_refl _) _)
  clear h
  unfold arr at HX HB ⊢
  have HRV := Aside0.mk (show rootI c.f4 (c.f4.length + 1 - 0) r = rootV c.f4 r from rfl)
  have hw0 : IntKind.i64.wrap ((c.f4.length : Int) + 1) = (c.f4.length : Int) + 1 := IntWalk.i64_in _ (by omega)
  have q12 := HX.out.cell12
  go_enter Tryd.func14, Tryd.ntmps14
  go_wp2_with fail
  generalize w.alloc (.cells #[.string c.f0, .string c.f1.f0, .bool c.f1.f1, .bool c.f1.f2, .bool c.f1.f3, .bool c.f1.f4, .bool c.f1.f5, .bool c.f1.f6, .bool c.f1.f7, .bool c.f1.f8, .slice V.a10 c.f2.length V.k10, .slice V.a11 c.f3.length V.k11, .slice V.a12 c.f4.length V.k12, .slice V.a13 c.f5.length V.k13, .slice V.a14 c.f6.length V.k14, .slice V.a15 c.f7.length V.k15, .slice V.a16 c.f8.length V.k16, .slice V.a17 c.f9.length V.k17] 33) = w0 at *
  clear hw0 q12
  generalize hrv : rootV c.f4 r = rv at *
  go_loop [1, 9] (fun x i => ∃ (k : Nat) (q : Int), k ≤ c.f4.length + 1 ∧ x = .int .i64 q ∧ i = .int .i64 k ∧ Aside0 (rootI c.f4 (c.f4.length + 1 - k) q = rv)) (fun _ i => c.f4.length + 1 - (intOf i).toNat)
  case atStart => exact ⟨0, r, by omega, rfl, rfl, HRV⟩
  case round =>
    clear HRV
    obtain ⟨k, q, hk, rfl, rfl, HR⟩ := hrel
    have q12 := HX.out.cell12
    by_cases hlt : k < c.f4.length + 1
    · have hd : decide ((k : Int) < (c.f4.length : Int) + 1) = true := decide_eq_true (by omega)
      obtain ⟨m, hm⟩ : ∃ m, c.f4.length + 1 - k = m + 1 := ⟨c.f4.length - k, by omega⟩
      have HR := Aside0.mk (show (if q < 0 ∨ (c.f4.length : Int) ≤ q then -1 else if kindR c.f4 q.toNat ≠ 2 then q else rootI c.f4 m (linkR c.f4 q.toNat)) = rv from by have := HR.out; rw [hm] at this; exact this)
      have hmk : m = c.f4.length + 1 - (k + 1) := by omega
      subst hmk
      clear hm
      by_cases h0 : q < 0
      · have hd0 : decide (q < 0) = true := decide_eq_true h0
        have HT := Aside0.mk (show (-1 : Int) = rv from by have := HR.out; rw [if_pos (.inl h0)] at this; exact this)
        clear HR h0
        go_wp2_with fail
        go_ret
        exact ⟨by rw [← HT.out] <;> rfl, HB.out⟩
      · obtain ⟨p, rfl⟩ : ∃ p : Nat, q = p := ⟨q.toNat, by omega⟩
        have hd0 : decide ((p : Int) < 0) = false := decide_eq_false h0
        by_cases h1 : c.f4.length ≤ p
        · have hd1 : decide ((c.f4.length : Int) ≤ (p : Int)) = true := decide_eq_true (by omega)
          have HT := Aside0.mk (show (-1 : Int) = rv from by have := HR.out; rw [if_pos (.inr (by omega))] at this; exact this)
          clear HR h0
          go_wp2_with fail
          go_ret
          exact ⟨by rw [← HT.out] <;> rfl, HB.out⟩
        · have hd1 : decide ((c.f4.length : Int) ≤ (p : Int)) = false := decide_eq_false (by omega)
          have HR := Aside0.mk (show (if kindR c.f4 p ≠ 2 then (p : Int) else rootI c.f4 (c.f4.length + 1 - (k + 1)) (linkR c.f4 p)) = rv from by have := HR.out; rw [if_neg (by omega), Int.toNat_natCast] at this; exact this)
          obtain ⟨t, ad, ht, e, HA⟩ := res_at HX.out.cf.r p (by omega)
          have g1 := HA.g1
          have g2 := HA.g2
          rw [e] at q12
          unfold kindR linkR at HR
          rw [ht] at HR
          have hp : p < c.f4.length := by omega
          clear ht e HA h0
          obtain ⟨kd, hkd⟩ : ∃ kd, t.f1 = kd := ⟨_, rfl⟩
          obtain ⟨lk, hlk⟩ : ∃ lk, t.f2 = lk := ⟨_, rfl⟩
          rw [hkd] at g1 HR
          rw [hlk] at g2 HR
          clear hkd hlk
          by_cases ck : kd = 2
          · have cb : (kd != 2) = false := by simp [ck]
            have HT := Aside0.mk (show rootI c.f4 (c.f4.length + 1 - (k + 1)) lk = rv from by have := HR.out; rw [if_neg (fun e => e ck)] at this; exact this)
            clear HR ck
            go_wp2_with fail
            go_round
            case rel => exact ⟨k + 1, lk, by omega, rfl, by go_num, HT⟩
            case measure => simp [intOf]; omega
          · have cb : (kd != 2) = true := by simp [ck]
            have HT := Aside0.mk (show (p : Int) = rv from by have := HR.out; rw [if_pos ck] at this; exact this)
            clear HR ck
            go_wp2_with fail
            go_ret
            exact ⟨by rw [← HT.out] <;> rfl, HB.out⟩
    · have hd : decide ((k : Int) < (c.f4.length : Int) + 1) = false := decide_eq_false (by omega)
      have HT := Aside0.mk (show (-1 : Int) = rv from by have := HR.out; rw [show c.f4.length + 1 - k = 0 by omega] at this; exact this)
      clear HR
      go_wp2_with fail
      go_ret
      exact ⟨by rw [← HT.out] <;> rfl, HB.out⟩
end Go.Proofs.YthckjbmgeidkgaaDoor.XA
