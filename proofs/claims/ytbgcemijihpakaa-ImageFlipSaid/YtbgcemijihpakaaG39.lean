/- plain: are two tables alike? -/
import Derived.Test.YtbgcemijihpakaaG11
import Derived.Test.YtbgcemijihpakaaG36
section
namespace Go.Proofs.Ytbgcemijihpakaa.XA
set_option linter.unusedVariables false
set_option linter.unusedSimpArgs false
open Go.RowKit Go.WideMaps Go.Maps Go.Proofs.YtbgcemijihpakaaW.PrintWords Go.Proofs.YtbgcemijihpakaaW.PrintLast Go.Proofs.YtbgcemijihpakaaW.PrintMore
theorem eqL_iff {α : Type} {f : α → α → Bool} (hf : ∀ x y, f x y = true ↔ x = y) : ∀ xs ys : List α, eqL f xs ys = true ↔ xs = ys
 | [], [] => by simp [eqL]
 | [], _ :: _ => by simp [eqL]
 | _ :: _, [] => by simp [eqL]
 | x :: xs, y :: ys => by
  simp only [eqL, Bool.and_eq_true, List.cons.injEq]
  rw [hf, eqL_iff hf xs ys]
theorem eqI_iff (x y : Int) : eqI x y = true ↔ x = y := by unfold eqI; exact beq_iff_eq
def eq69 (x y : S69) : Bool := x.f0 == y.f0 && (x.f1 == y.f1 && (x.f2 == y.f2 && (x.f3 == y.f3 && (x.f4 == y.f4 && (x.f5 == y.f5 && (x.f7 == y.f7 && eqL eqI x.f6 y.f6))))))
def eq107 (x y : S107) : Bool := x.f0 == y.f0 && (x.f1 == y.f1 && eqL eqI x.f2 y.f2)
theorem eq69_iff (x y : S69) : eq69 x y = true ↔ x = y := by
 unfold eq69
 simp only [Bool.and_eq_true, beq_iff_eq, eqL_iff eqI_iff]
 cases x; cases y
 simp only [S69.mk.injEq]
 constructor
 ·rintro ⟨a, b, c, d, e, f, g, h⟩; exact ⟨a, b, c, d, e, f, h, g⟩
 ·rintro ⟨a, b, c, d, e, f, h, g⟩; exact ⟨a, b, c, d, e, f, g, h⟩
theorem eq107_iff (x y : S107) : eq107 x y = true ↔ x = y := by
 unfold eq107
 simp only [Bool.and_eq_true, beq_iff_eq, eqL_iff eqI_iff]
 cases x; cases y
 simp only [S107.mk.injEq]
theorem eq88_iff (x y : S88) : eq88 x y = true ↔ x = y := by
 unfold eq88
 simp only [Bool.and_eq_true, beq_iff_eq]
 cases x; cases y
 simp only [S88.mk.injEq]
theorem eq66_iff (x y : S66) : eq66 x y = true ↔ x = y := by
 unfold eq66
 simp only [Bool.and_eq_true, beq_iff_eq]
 cases x; cases y
 simp only [S66.mk.injEq]
theorem eq95_iff (x y : S95) : eq95 x y = true ↔ x = y := by
 unfold eq95
 simp only [Bool.and_eq_true, beq_iff_eq]
 cases x; cases y
 simp only [S95.mk.injEq]
theorem eq102_iff (x y : S102) : eq102 x y = true ↔ x = y := by
 unfold eq102
 simp only [Bool.and_eq_true, beq_iff_eq]
 rcases x with ⟨a, ⟨b, c, d⟩, e, f, g⟩
 rcases y with ⟨a', ⟨b', c', d'⟩, e', f', g'⟩
 simp only [S102.mk.injEq, S100.mk.injEq]
theorem eq113_iff (x y : S113) : eq113 x y = true ↔ x = y := by
 unfold eq113
 simp only [Bool.and_eq_true, beq_iff_eq]
 rcases x with ⟨a, b, c, d, e, ⟨f, g, h⟩⟩
 rcases y with ⟨a', b', c', d', e', ⟨f', g', h'⟩⟩
 simp only [S113.mk.injEq, S100.mk.injEq]
def headB (t u : S33) : Bool := t.f0 == u.f0 && (t.f1 == u.f1 && (t.f9 == u.f9 && (t.f10 == u.f10 && (t.f11 == u.f11 && t.f12 == u.f12))))
/-- are two tables alike? -/
def sameB (t u : S33) : Bool := headB t u && (eqL eq69 t.f2 u.f2 && (eqL eq88 t.f3 u.f3 && (eqL eq66 t.f4 u.f4 && (eqL eq95 t.f5 u.f5 && (eqL eq102 t.f6 u.f6 && (eqL eq107 t.f7 u.f7 && eqL eq113 t.f8 u.f8))))))
theorem sameB_iff (t u : S33) : sameB t u = true ↔ t = u := by
 unfold sameB headB
 simp only [Bool.and_eq_true, beq_iff_eq, eqL_iff eq69_iff, eqL_iff eq88_iff, eqL_iff eq66_iff, eqL_iff eq95_iff, eqL_iff eq102_iff, eqL_iff eq107_iff, eqL_iff eq113_iff]
 cases t; cases u
 simp only [S33.mk.injEq]
 constructor
 ·rintro ⟨⟨a, b, c, d, e, f⟩, g, h, i, j, k, l, m⟩; exact ⟨a, b, g, h, i, j, k, l, m, c, d, e, f⟩
 ·rintro ⟨a, b, g, h, i, j, k, l, m, c, d, e, f⟩; exact ⟨⟨a, b, c, d, e, f⟩, g, h, i, j, k, l, m⟩
theorem sameB_self (t : S33) : sameB t t = true := (sameB_iff t t).mpr rfl
theorem sameB_comm (t u : S33) : sameB t u = sameB u t := by
 rw [Bool.eq_iff_iff, sameB_iff, sameB_iff]
 exact eq_comm
end Go.Proofs.Ytbgcemijihpakaa.XA
end
section
namespace Go.Proofs.Ytbgcemijihpakaa.XA
set_option linter.unusedVariables false
set_option linter.unusedSimpArgs false
open Go.RowKit Go.WideMaps Go.Maps Go.Proofs.YtbgcemijihpakaaW.PrintWords Go.Proofs.YtbgcemijihpakaaW.PrintLast Go.Proofs.YtbgcemijihpakaaW.PrintMore
def smallT : S33 := ⟨0, 1, [⟨1, 0, true, 1, 0, -1, [], 0⟩], [⟨1, 1⟩], [], [], [], [], [], 1, 4, 2, 0⟩
def smallI : List Int := [84, 80, 84, 49, 44, 0, 0, 0, 1, 0, 1, 0, 0, 0, 0, 0, 0, 0, 0, 0, 0, 0, 0, 1, 1, 4, 2, 0, 1, 0, 1, 1, 0, 0, 0, 0, 0, 0, 0, 1, 1, 0, 11, 197]
theorem small_ok : tabOk smallT = true := by decide +kernel
theorem small_img : imgL smallT = smallI := by decide +kernel
theorem small_ty : TyTab smallT := by
 refine ⟨fun x hx => ?_, fun x hx => ?_, fun x hx => ?_⟩
 ·have : x = ⟨1, 0, true, 1, 0, -1, [], 0⟩ := by simpa [smallT] using hx
  subst this
  unfold W4
  simp
 ·simp [smallT] at hx
 ·simp [smallT] at hx
theorem small_back : imgP smallI = .ok smallT := by rw [← small_img]; exact back_of small_ok small_ty
theorem small_flip : imgP (smallI.set 30 0) = .error 102 := by
 have e1 : pGet 4 (((smallI.set 30 0).take 28).drop 4) = .ok (44, ((smallI.take 28).drop 8)) := by
  have h : pGet 4 (((smallI.set 30 0).take 28).drop 4) = pGet 4 ((smallI.take 28).drop 4) := by congr 1
  rw [h]
  rfl
 unfold imgP
 rw [if_neg (by decide +kernel), if_neg (by decide +kernel), e1]
 simp only []
 rw [if_neg (by decide +kernel), if_pos (by decide +kernel)]
end Go.Proofs.Ytbgcemijihpakaa.XA
end
section
namespace Go.Proofs.Ytbgcemijihpakaa.XA
set_option linter.unusedVariables false
set_option linter.unusedSimpArgs false
open Go.RowKit Go.WideMaps Go.Maps Go.Proofs.YtbgcemijihpakaaW.PrintWords Go.Proofs.YtbgcemijihpakaaW.PrintLast Go.Proofs.YtbgcemijihpakaaW.PrintMore
set_option maxRecDepth 1000000 in
set_option maxHeartbeats 4000000 in
theorem ints_calls (A A2 : Option Addr) (c c2 : Nat) (xs ys : List Int) (w : World) (hx : (Kd.int .i64).C w A xs.length xs) (hy : (Kd.int .i64).C w A2 ys.length ys) (hc : xs.length ≤ c) (hc2 : ys.length ≤ c2) :
  Calls Try.prog 54 #[.slice A xs.length c, .slice A2 ys.length c2] w fun e w' => e = .returned (.bool (eqL eqI xs ys)) ∧ Below w.heap.size w w' := by
 have HX := Aside0.mk hx
 have HY := Aside0.mk hy
 have hlx := hx.2.1
 have hlz := hy.2.1
 have HB := Aside0.mk (Below.refl w.heap.size w)
 clear hx hy
 by_cases hl : xs.length = ys.length
 ·have hlb : ((xs.length : Int) != (ys.length : Int)) = false := by rw [bne_eq_false_iff_eq, hl]
  have HL := Aside0.mk hl
  clear hl
  go_enter Try.func54, Try.ntmps54
  go_wp2_with fail
  go_loopg [5] xs.length (fun g i wr => ∃ k : Nat, k ≤ xs.length ∧ g = xs.length - k ∧ i = .int .i64 k ∧ Aside0 (eqL eqI xs ys = eqL eqI (xs.drop k) (ys.drop k)) ∧ Aside0 (Below w.heap.size w wr))
  case atStart => exact ⟨0, by omega, rfl, rfl, ⟨rfl⟩, HB⟩
  case round =>
  clear HB
  obtain ⟨k, hk, rfl, rfl, HS, HB⟩ := hrel
  by_cases hlt : k < xs.length
  ·have hd : decide ((k : Int) < (xs.length : Int)) = true := decide_eq_true (by omega)
   have hly : k < ys.length := by have := HL.out; omega
   have HLT := Aside0.mk hlt
   replace HS := Aside0.mk (HS.out.trans (eqL_drop eqI 0 xs ys k hlt hly))
   obtain ⟨ad, rfl, hx0⟩ := (Kd.reads_of_C (d := (0 : Int)) (Kd.C_below HX.out HB.out)).2.2 (by omega)
   obtain ⟨ad2, rfl, hy0⟩ := (Kd.reads_of_C (d := (0 : Int)) (Kd.C_below HY.out HB.out)).2.2 (by omega)
   have gx := hx0 k hlt
   have gy := hy0 k hly
   clear hx0 hy0
   generalize xs.getD k 0 = x at *
   generalize ys.getD k 0 = y at *
   have HBR := Aside0.mk HB.out
   go_upto_region 6 with fail
   have gx' : ∀ w_ : World, Below wr.heap.size wr w_ → w_.cell? (ad.add k) = some (.int .i64 x) := fun w_ s => (s.cell (World.block_lt_of_cell? wr _ gx)).trans gx
   have gy' : ∀ w_ : World, Below wr.heap.size wr w_ → w_.cell? (ad2.add k) = some (.int .i64 y) := fun w_ s => (s.cell (World.block_lt_of_cell? wr _ gy)).trans gy
   have GX := Aside0.mk gx'
   have GY := Aside0.mk gy'
   clear gx gy gx' gy'
   refine start_ (n := 9) (S := fun w_ => Below wr.heap.size wr w_) (ds := []) #[false, false, false, false, false, false, false, false, false] (by kernel_rfl) rfl rfl (drew_below wr) (fun hHeld => ?_)
   have HH := Aside0.mk hHeld
   clear hHeld
   generalize wr.drew = wv at HH ⊢
   refine pure_ (i := 0) (N := some 17) (v := ?_) (a' := ?_) #[true, false, false, false, false, false, false, false, false] rfl rfl (by kernel_rfl) (fun _ _ _ h => h) (Or.inl ⟨by rfl, ?_⟩) ?_ ?_
   rotate_left
   ·intro w_
    go_simp
    with_reducible rfl
   rotate_left
   ·simp only [Act.put, List.setIfInBounds_toArray, List.set_cons_zero, List.set_cons_succ, i64_w, i32_w]
    rfl
   refine pure_ (i := 1) (N := some 18) (v := ?_) (a' := ?_) #[true, true, false, false, false, false, false, false, false] rfl rfl (by kernel_rfl) (fun _ _ _ h => h) (Or.inl ⟨by rfl, ?_⟩) ?_ ?_
   rotate_left
   ·intro w_
    go_simp
    with_reducible rfl
   rotate_left
   ·simp only [Act.put, List.setIfInBounds_toArray, List.set_cons_zero, List.set_cons_succ, i64_w, i32_w]
    rfl
   refine pure_ (i := 2) (N := some 19) (v := ?_) (a' := ?_) #[true, true, true, false, false, false, false, false, false] rfl rfl (by kernel_rfl) (fun _ _ _ h => h) (Or.inl ⟨by rfl, ?_⟩) ?_ ?_
   rotate_left
   ·intro w_
    go_simp
    with_reducible rfl
   rotate_left
   ·simp only [Act.put, List.setIfInBounds_toArray, List.set_cons_zero, List.set_cons_succ, i64_w, i32_w]
    rfl
   refine take_ (i := 3) (N := some 20) (v := ?_) (a' := ?_) #[true, true, true, true, false, false, false, false, false] rfl rfl (by kernel_rfl) (fun _ _ _ h => h) (Or.inl ⟨by rfl, ?_⟩) HH.out ?_ ?_
   rotate_left
   ·rintro w_ s
    have hgx := GX.out w_ s; have hgy := GY.out w_ s
    go_simp
    with_reducible rfl
   rotate_left
   ·simp only [Act.put, List.setIfInBounds_toArray, List.set_cons_zero, List.set_cons_succ, i64_w, i32_w]
    rfl
   refine pure_ (i := 4) (N := some 21) (v := ?_) (a' := ?_) #[true, true, true, true, true, false, false, false, false] rfl rfl (by kernel_rfl) (fun _ _ _ h => h) (Or.inl ⟨by rfl, ?_⟩) ?_ ?_
   rotate_left
   ·intro w_
    go_simp
    with_reducible rfl
   rotate_left
   ·simp only [Act.put, List.setIfInBounds_toArray, List.set_cons_zero, List.set_cons_succ, i64_w, i32_w]
    rfl
   refine pure_ (i := 5) (N := some 22) (v := ?_) (a' := ?_) #[true, true, true, true, true, true, false, false, false] rfl rfl (by kernel_rfl) (fun _ _ _ h => h) (Or.inl ⟨by rfl, ?_⟩) ?_ ?_
   rotate_left
   ·intro w_
    go_simp
    with_reducible rfl
   rotate_left
   ·simp only [Act.put, List.setIfInBounds_toArray, List.set_cons_zero, List.set_cons_succ, i64_w, i32_w]
    rfl
   refine pure_ (i := 6) (N := some 23) (v := ?_) (a' := ?_) #[true, true, true, true, true, true, true, false, false] rfl rfl (by kernel_rfl) (fun _ _ _ h => h) (Or.inl ⟨by rfl, ?_⟩) ?_ ?_
   rotate_left
   ·intro w_
    go_simp
    with_reducible rfl
   rotate_left
   ·simp only [Act.put, List.setIfInBounds_toArray, List.set_cons_zero, List.set_cons_succ, i64_w, i32_w]
    rfl
   refine take_ (i := 7) (N := some 24) (v := ?_) (a' := ?_) #[true, true, true, true, true, true, true, true, false] rfl rfl (by kernel_rfl) (fun _ _ _ h => h) (Or.inl ⟨by rfl, ?_⟩) HH.out ?_ ?_
   rotate_left
   ·rintro w_ s
    have hgx := GX.out w_ s; have hgy := GY.out w_ s
    go_simp
    with_reducible rfl
   rotate_left
   ·simp only [Act.put, List.setIfInBounds_toArray, List.set_cons_zero, List.set_cons_succ, i64_w, i32_w]
    rfl
   refine pure_ (i := 8) (N := some 25) (v := ?_) (a' := ?_) #[true, true, true, true, true, true, true, true, true] rfl rfl (by kernel_rfl) (fun _ _ _ h => h) (Or.inl ⟨by rfl, ?_⟩) ?_ ?_
   rotate_left
   ·intro w_
    go_simp
    with_reducible rfl
   rotate_left
   ·simp only [Act.put, List.setIfInBounds_toArray, List.set_cons_zero, List.set_cons_succ, i64_w, i32_w]
    rfl
   refine done_ (by kernel_rfl) ?_
   have HB2 := Aside0.mk (HB.out.trans (HH.out.mono HB.out.size))
   rcases he : (x == y) with _ | _
   ·have HK := Aside0.mk (show eqL eqI xs ys = false from by rw [HS.out, show eqI x y = false from he, Bool.false_and])
    have hq : (x != y) = true := by rw [bne_iff_ne]; exact beq_eq_false_iff_ne.mp he
    clear he HS HH
    go_wp2_with fail
    go_ret
    exact ⟨ret_b HK.out, HB2.out⟩
   ·have HK := Aside0.mk (show eqL eqI xs ys = eqL eqI (xs.drop (k + 1)) (ys.drop (k + 1)) from by rw [HS.out, show eqI x y = true from he, Bool.true_and])
    have hq : (x != y) = false := by rw [bne_eq_false_iff_eq]; exact beq_iff_eq.mp he
    clear he HS HH
    go_wp2_with fail
    go_roundg (xs.length - (k + 1))
    case measure => have := HLT.out; omega
    case rel => exact ⟨k + 1, HLT.out, rfl, by go_num, HK, HB2⟩
  ·have hd : decide ((k : Int) < (xs.length : Int)) = false := decide_eq_false (by omega)
   have HK := Aside0.mk (show eqL eqI xs ys = true from by rw [HS.out, List.drop_of_length_le (by omega), List.drop_of_length_le (by have := HL.out; omega)]; rfl)
   clear HS
   go_wp2_with fail
   go_ret
   exact ⟨ret_b HK.out, HB.out⟩
 ·have hlb : ((xs.length : Int) != (ys.length : Int)) = true := by rw [bne_iff_ne]; omega
  have HK := Aside0.mk (eqL_len eqI xs ys hl)
  clear hl
  go_enter Try.func54, Try.ntmps54
  go_wp2_with fail
  go_ret
  exact ⟨ret_b HK.out, HB.out⟩
set_option maxRecDepth 1000000 in
set_option maxHeartbeats 4000000 in
theorem same57_calls (x y : S69) (A6 B6 : Option Addr) (c6 d6 : Nat) (w : World) (hx : (Kd.int .i64).C w A6 x.f6.length x.f6) (hy : (Kd.int .i64).C w B6 y.f6.length y.f6) (hc : x.f6.length ≤ c6) (hd : y.f6.length ≤ d6) :
  Calls Try.prog 57 #[.agg #[.int .i64 x.f0, .int .i64 x.f1, .bool x.f2, .int .i64 x.f3, .int .u32 x.f4, .int .i64 x.f5, .slice A6 x.f6.length c6, .int .u32 x.f7], .agg #[.int .i64 y.f0, .int .i64 y.f1, .bool y.f2, .int .i64 y.f3, .int .u32 y.f4, .int .i64 y.f5, .slice B6 y.f6.length d6, .int .u32 y.f7]] w fun e w' => e = .returned (.bool (eq69 x y)) ∧ Below w.heap.size w w' := by
 have b1 := below_a w (.cells #[.int .i64 x.f0, .int .i64 x.f1, .bool x.f2, .int .i64 x.f3, .int .u32 x.f4, .int .i64 x.f5, .slice A6 x.f6.length c6, .int .u32 x.f7] 69)
 have b2 := below_a (w.alloc (.cells #[.int .i64 x.f0, .int .i64 x.f1, .bool x.f2, .int .i64 x.f3, .int .u32 x.f4, .int .i64 x.f5, .slice A6 x.f6.length c6, .int .u32 x.f7] 69)) (.cells #[.int .i64 y.f0, .int .i64 y.f1, .bool y.f2, .int .i64 y.f3, .int .u32 y.f4, .int .i64 y.f5, .slice B6 y.f6.length d6, .int .u32 y.f7] 69)
 have hsz : (w.alloc (.cells #[.int .i64 x.f0, .int .i64 x.f1, .bool x.f2, .int .i64 x.f3, .int .u32 x.f4, .int .i64 x.f5, .slice A6 x.f6.length c6, .int .u32 x.f7] 69)).heap.size = w.heap.size + 1 := by simp
 have HA := Aside0.mk ((At69.made w x A6 c6).below b2)
 have hb := At69.made (w.alloc (.cells #[.int .i64 x.f0, .int .i64 x.f1, .bool x.f2, .int .i64 x.f3, .int .u32 x.f4, .int .i64 x.f5, .slice A6 x.f6.length c6, .int .u32 x.f7] 69)) y B6 d6
 rw [hsz] at hb
 have HB := Aside0.mk hb
 have HW := Aside0.mk (b1.trans (b2.mono b1.size))
 have HX := Aside0.mk (Kd.C_below hx HW.out)
 have HY := Aside0.mk (Kd.C_below hy HW.out)
 have HC := Aside0.mk hc
 have HD := Aside0.mk hd
 have HQ := Aside0.mk (show eq69 x y = eq69 x y from rfl)
 clear hx hy hc hd b1 b2 hsz hb
 go_enter Try.func57, Try.ntmps57
 go_upto_region 1 with fail
 generalize (w.alloc (.cells #[.int .i64 x.f0, .int .i64 x.f1, .bool x.f2, .int .i64 x.f3, .int .u32 x.f4, .int .i64 x.f5, .slice A6 x.f6.length c6, .int .u32 x.f7] 69)).alloc (.cells #[.int .i64 y.f0, .int .i64 y.f1, .bool y.f2, .int .i64 y.f3, .int .u32 y.f4, .int .i64 y.f5, .slice B6 y.f6.length d6, .int .u32 y.f7] 69) = w2 at *
 generalize w.heap.size + 1 = Q at HB ⊢
 obtain ⟨P, hP⟩ : ∃ P, P = w.heap.size := ⟨_, rfl⟩
 rw [← hP] at HA ⊢
 conv at HW => skip
 have a0 := HA.out.g0
 have a1 := HA.out.g1
 have a2 := HA.out.g2
 have a3 := HA.out.g3
 have a4 := HA.out.g4
 have a5 := HA.out.g5
 have a6 := HA.out.g6
 have a7 := HA.out.g7
 have b0 := HB.out.g0
 have b1 := HB.out.g1
 have b2 := HB.out.g2
 have b3 := HB.out.g3
 have b4 := HB.out.g4
 have b5 := HB.out.g5
 have b6 := HB.out.g6
 have b7 := HB.out.g7
 clear HA HB HQ hP
 rcases h0 : (x.f0 == y.f0) with _ | _
 ·go_wp2_with fail
  go_ret
  exact ⟨ret_b (show eq69 x y = false from by unfold eq69; simp only [h0, Bool.true_and, Bool.false_and]), HW.out⟩
 rcases h1 : (x.f1 == y.f1) with _ | _
 ·go_wp2_with fail
  go_ret
  exact ⟨ret_b (show eq69 x y = false from by unfold eq69; simp only [h0, h1, Bool.true_and, Bool.false_and]), HW.out⟩
 rcases h2 : (x.f2 == y.f2) with _ | _
 ·go_wp2_with fail
  go_ret
  exact ⟨ret_b (show eq69 x y = false from by unfold eq69; simp only [h0, h1, h2, Bool.true_and, Bool.false_and]), HW.out⟩
 rcases h3 : (x.f3 == y.f3) with _ | _
 ·go_wp2_with fail
  go_ret
  exact ⟨ret_b (show eq69 x y = false from by unfold eq69; simp only [h0, h1, h2, h3, Bool.true_and, Bool.false_and]), HW.out⟩
 rcases h4 : (x.f4 == y.f4) with _ | _
 ·go_wp2_with fail
  go_ret
  exact ⟨ret_b (show eq69 x y = false from by unfold eq69; simp only [h0, h1, h2, h3, h4, Bool.true_and, Bool.false_and]), HW.out⟩
 rcases h5 : (x.f5 == y.f5) with _ | _
 ·go_wp2_with fail
  go_ret
  exact ⟨ret_b (show eq69 x y = false from by unfold eq69; simp only [h0, h1, h2, h3, h4, h5, Bool.true_and, Bool.false_and]), HW.out⟩
 rcases h7 : (x.f7 == y.f7) with _ | _
 ·go_wp2_with fail
  go_ret
  exact ⟨ret_b (show eq69 x y = false from by unfold eq69; simp only [h0, h1, h2, h3, h4, h5, h7, Bool.true_and, Bool.false_and]), HW.out⟩
 go_wp2_with fail
 refine (eqInt_calls A6 B6 c6 d6 x.f6 y.f6 w2 HX.out HY.out HC.out HD.out).mono ?_
 rintro e w3 ⟨rfl, b3⟩
 go_wp2_with fail
 go_ret
 exact ⟨ret_b (show eq69 x y = eqL eqI x.f6 y.f6 from by unfold eq69; simp only [h0, h1, h2, h3, h4, h5, h7, Bool.true_and]), HW.out.trans (b3.mono HW.out.size)⟩
set_option maxRecDepth 1000000 in
set_option maxHeartbeats 4000000 in
theorem same64_calls (x y : S107) (A6 B6 : Option Addr) (c6 d6 : Nat) (w : World) (hx : (Kd.int .i64).C w A6 x.f2.length x.f2) (hy : (Kd.int .i64).C w B6 y.f2.length y.f2) (hc : x.f2.length ≤ c6) (hd : y.f2.length ≤ d6) :
  Calls Try.prog 64 #[.agg #[.int .i64 x.f0, .int .i64 x.f1, .slice A6 x.f2.length c6], .agg #[.int .i64 y.f0, .int .i64 y.f1, .slice B6 y.f2.length d6]] w fun e w' => e = .returned (.bool (eq107 x y)) ∧ Below w.heap.size w w' := by
 have b1 := below_a w (.cells #[.int .i64 x.f0, .int .i64 x.f1, .slice A6 x.f2.length c6] 107)
 have b2 := below_a (w.alloc (.cells #[.int .i64 x.f0, .int .i64 x.f1, .slice A6 x.f2.length c6] 107)) (.cells #[.int .i64 y.f0, .int .i64 y.f1, .slice B6 y.f2.length d6] 107)
 have hsz : (w.alloc (.cells #[.int .i64 x.f0, .int .i64 x.f1, .slice A6 x.f2.length c6] 107)).heap.size = w.heap.size + 1 := by simp
 have HA := Aside0.mk ((At107.made w x A6 c6).below b2)
 have hb := At107.made (w.alloc (.cells #[.int .i64 x.f0, .int .i64 x.f1, .slice A6 x.f2.length c6] 107)) y B6 d6
 rw [hsz] at hb
 have HB := Aside0.mk hb
 have HW := Aside0.mk (b1.trans (b2.mono b1.size))
 have HX := Aside0.mk (Kd.C_below hx HW.out)
 have HY := Aside0.mk (Kd.C_below hy HW.out)
 have HC := Aside0.mk hc
 have HD := Aside0.mk hd
 have HQ := Aside0.mk (show eq107 x y = eq107 x y from rfl)
 clear hx hy hc hd b1 b2 hsz hb
 go_enter Try.func64, Try.ntmps64
 go_upto_region 1 with fail
 generalize (w.alloc (.cells #[.int .i64 x.f0, .int .i64 x.f1, .slice A6 x.f2.length c6] 107)).alloc (.cells #[.int .i64 y.f0, .int .i64 y.f1, .slice B6 y.f2.length d6] 107) = w2 at *
 generalize w.heap.size + 1 = Q at HB ⊢
 obtain ⟨P, hP⟩ : ∃ P, P = w.heap.size := ⟨_, rfl⟩
 rw [← hP] at HA ⊢
 conv at HW => skip
 have a0 := HA.out.g0
 have a1 := HA.out.g1
 have a2 := HA.out.g2
 have b0 := HB.out.g0
 have b1 := HB.out.g1
 have b2 := HB.out.g2
 clear HA HB HQ hP
 rcases h0 : (x.f0 == y.f0) with _ | _
 ·go_wp2_with fail
  go_ret
  exact ⟨ret_b (show eq107 x y = false from by unfold eq107; simp only [h0, Bool.true_and, Bool.false_and]), HW.out⟩
 rcases h1 : (x.f1 == y.f1) with _ | _
 ·go_wp2_with fail
  go_ret
  exact ⟨ret_b (show eq107 x y = false from by unfold eq107; simp only [h0, h1, Bool.true_and, Bool.false_and]), HW.out⟩
 go_wp2_with fail
 refine (eqInt_calls A6 B6 c6 d6 x.f2 y.f2 w2 HX.out HY.out HC.out HD.out).mono ?_
 rintro e w3 ⟨rfl, b3⟩
 go_wp2_with fail
 go_ret
 exact ⟨ret_b (show eq107 x y = eqL eqI x.f2 y.f2 from by unfold eq107; simp only [h0, h1, Bool.true_and]), HW.out.trans (b3.mono HW.out.size)⟩
end Go.Proofs.Ytbgcemijihpakaa.XA
end
