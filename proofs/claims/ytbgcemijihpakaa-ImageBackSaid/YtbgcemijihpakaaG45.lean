/- the document's Same over bytes. -/
import Derived.Test.YtbgcemijihpakaaG39
import Derived.Test.YtbgcemijihpakaaG44
section
namespace Go.Proofs.Ytbgcemijihpakaa.XA
set_option linter.unusedVariables false
set_option linter.unusedSimpArgs false
open Go.RowKit Go.WideMaps Go.Maps Go.Proofs.YtbgcemijihpakaaW.PrintWords Go.Proofs.YtbgcemijihpakaaW.PrintLast Go.Proofs.YtbgcemijihpakaaW.PrintMore
set_option maxRecDepth 1000000 in
set_option maxHeartbeats 4000000 in
theorem bsame_calls (A A2 : Option Addr) (c c2 : Nat) (xs ys : List Int) (w : World) (hx : (Kd.int .u8).C w A xs.length xs) (hy : (Kd.int .u8).C w A2 ys.length ys) (hc : xs.length ≤ c) (hc2 : ys.length ≤ c2) :
  Calls Try.prog 14 #[.slice A xs.length c, .slice A2 ys.length c2] w fun e w' => e = .returned (.bool (eqL eqI xs ys)) ∧ Below w.heap.size w w' := by
 have HX := Aside0.mk hx
 have HY := Aside0.mk hy
 have hlx := hx.2.1
 have hlz := hy.2.1
 have HB := Aside0.mk (Below.refl w.heap.size w)
 clear hx hy
 by_cases hl : xs.length = ys.length
 ·have hlb : ((xs.length : Int) != (ys.length : Int)) = false := by rw [bne_eq_false_iff_eq, hl]
  have HL := Aside0.mk hl
  clear hl
  go_enter Try.func14, Try.ntmps14
  go_wp2_with fail
  go_loopg [5] xs.length (fun g i wr => ∃ k : Nat, k ≤ xs.length ∧ g = xs.length - k ∧ i = .int .i64 k ∧ Aside0 (eqL eqI xs ys = eqL eqI (xs.drop k) (ys.drop k)) ∧ Aside0 (Below w.heap.size w wr))
  case atStart => exact ⟨0, by omega, rfl, rfl, ⟨rfl⟩, HB⟩
  case round =>
  clear HB
  obtain ⟨k, hk, rfl, rfl, HS, HB⟩ := hrel
  by_cases hlt : k < xs.length
  ·have hd : decide ((k : Int) < (xs.length : Int)) = true := decide_eq_true (by omega)
   have hly : k < ys.length := by have := HL.out; omega
   have HLT := Aside0.mk hlt
   replace HS := Aside0.mk (HS.out.trans (eqL_drop eqI 0 xs ys k hlt hly))
   obtain ⟨ad, rfl, hx0⟩ := (Kd.reads_of_C (d := (0 : Int)) (Kd.C_below HX.out HB.out)).2.2 (by omega)
   obtain ⟨ad2, rfl, hy0⟩ := (Kd.reads_of_C (d := (0 : Int)) (Kd.C_below HY.out HB.out)).2.2 (by omega)
   have gx := hx0 k hlt
   have gy := hy0 k hly
   clear hx0 hy0
   generalize xs.getD k 0 = x at *
   generalize ys.getD k 0 = y at *
   have HBR := Aside0.mk HB.out
   go_upto_region 6 with fail
   have gx' : ∀ w_ : World, Below wr.heap.size wr w_ → w_.cell? (ad.add k) = some (.int .u8 x) := fun w_ s => (s.cell (World.block_lt_of_cell? wr _ gx)).trans gx
   have gy' : ∀ w_ : World, Below wr.heap.size wr w_ → w_.cell? (ad2.add k) = some (.int .u8 y) := fun w_ s => (s.cell (World.block_lt_of_cell? wr _ gy)).trans gy
   have GX := Aside0.mk gx'
   have GY := Aside0.mk gy'
   clear gx gy gx' gy'
   refine start_ (n := 9) (S := fun w_ => Below wr.heap.size wr w_) (ds := []) #[false, false, false, false, false, false, false, false, false] (by kernel_rfl) rfl rfl (drew_below wr) (fun hHeld => ?_)
   have HH := Aside0.mk hHeld
   clear hHeld
   generalize wr.drew = wv at HH ⊢
   refine pure_ (i := 0) (N := some 17) (v := ?_) (a' := ?_) #[true, false, false, false, false, false, false, false, false] rfl rfl (by kernel_rfl) (fun _ _ _ h => h) (Or.inl ⟨by rfl, ?_⟩) ?_ ?_
   rotate_left
   ·intro w_
    go_simp
    with_reducible rfl
   rotate_left
   ·simp only [Act.put, List.setIfInBounds_toArray, List.set_cons_zero, List.set_cons_succ, i64_w, i32_w]
    rfl
   refine pure_ (i := 1) (N := some 18) (v := ?_) (a' := ?_) #[true, true, false, false, false, false, false, false, false] rfl rfl (by kernel_rfl) (fun _ _ _ h => h) (Or.inl ⟨by rfl, ?_⟩) ?_ ?_
   rotate_left
   ·intro w_
    go_simp
    with_reducible rfl
   rotate_left
   ·simp only [Act.put, List.setIfInBounds_toArray, List.set_cons_zero, List.set_cons_succ, i64_w, i32_w]
    rfl
   refine pure_ (i := 2) (N := some 19) (v := ?_) (a' := ?_) #[true, true, true, false, false, false, false, false, false] rfl rfl (by kernel_rfl) (fun _ _ _ h => h) (Or.inl ⟨by rfl, ?_⟩) ?_ ?_
   rotate_left
   ·intro w_
    go_simp
    with_reducible rfl
   rotate_left
   ·simp only [Act.put, List.setIfInBounds_toArray, List.set_cons_zero, List.set_cons_succ, i64_w, i32_w]
    rfl
   refine take_ (i := 3) (N := some 20) (v := ?_) (a' := ?_) #[true, true, true, true, false, false, false, false, false] rfl rfl (by kernel_rfl) (fun _ _ _ h => h) (Or.inl ⟨by rfl, ?_⟩) HH.out ?_ ?_
   rotate_left
   ·rintro w_ s
    have hgx := GX.out w_ s; have hgy := GY.out w_ s
    go_simp
    with_reducible rfl
   rotate_left
   ·simp only [Act.put, List.setIfInBounds_toArray, List.set_cons_zero, List.set_cons_succ, i64_w, i32_w]
    rfl
   refine pure_ (i := 4) (N := some 21) (v := ?_) (a' := ?_) #[true, true, true, true, true, false, false, false, false] rfl rfl (by kernel_rfl) (fun _ _ _ h => h) (Or.inl ⟨by rfl, ?_⟩) ?_ ?_
   rotate_left
   ·intro w_
    go_simp
    with_reducible rfl
   rotate_left
   ·simp only [Act.put, List.setIfInBounds_toArray, List.set_cons_zero, List.set_cons_succ, i64_w, i32_w]
    rfl
   refine pure_ (i := 5) (N := some 22) (v := ?_) (a' := ?_) #[true, true, true, true, true, true, false, false, false] rfl rfl (by kernel_rfl) (fun _ _ _ h => h) (Or.inl ⟨by rfl, ?_⟩) ?_ ?_
   rotate_left
   ·intro w_
    go_simp
    with_reducible rfl
   rotate_left
   ·simp only [Act.put, List.setIfInBounds_toArray, List.set_cons_zero, List.set_cons_succ, i64_w, i32_w]
    rfl
   refine pure_ (i := 6) (N := some 23) (v := ?_) (a' := ?_) #[true, true, true, true, true, true, true, false, false] rfl rfl (by kernel_rfl) (fun _ _ _ h => h) (Or.inl ⟨by rfl, ?_⟩) ?_ ?_
   rotate_left
   ·intro w_
    go_simp
    with_reducible rfl
   rotate_left
   ·simp only [Act.put, List.setIfInBounds_toArray, List.set_cons_zero, List.set_cons_succ, i64_w, i32_w]
    rfl
   refine take_ (i := 7) (N := some 24) (v := ?_) (a' := ?_) #[true, true, true, true, true, true, true, true, false] rfl rfl (by kernel_rfl) (fun _ _ _ h => h) (Or.inl ⟨by rfl, ?_⟩) HH.out ?_ ?_
   rotate_left
   ·rintro w_ s
    have hgx := GX.out w_ s; have hgy := GY.out w_ s
    go_simp
    with_reducible rfl
   rotate_left
   ·simp only [Act.put, List.setIfInBounds_toArray, List.set_cons_zero, List.set_cons_succ, i64_w, i32_w]
    rfl
   refine pure_ (i := 8) (N := some 25) (v := ?_) (a' := ?_) #[true, true, true, true, true, true, true, true, true] rfl rfl (by kernel_rfl) (fun _ _ _ h => h) (Or.inl ⟨by rfl, ?_⟩) ?_ ?_
   rotate_left
   ·intro w_
    go_simp
    with_reducible rfl
   rotate_left
   ·simp only [Act.put, List.setIfInBounds_toArray, List.set_cons_zero, List.set_cons_succ, i64_w, i32_w]
    rfl
   refine done_ (by kernel_rfl) ?_
   have HB2 := Aside0.mk (HB.out.trans (HH.out.mono HB.out.size))
   rcases he : (x == y) with _ | _
   ·have HK := Aside0.mk (show eqL eqI xs ys = false from by rw [HS.out, show eqI x y = false from he, Bool.false_and])
    have hq : (x != y) = true := by rw [bne_iff_ne]; exact beq_eq_false_iff_ne.mp he
    clear he HS HH
    go_wp2_with fail
    go_ret
    exact ⟨ret_b HK.out, HB2.out⟩
   ·have HK := Aside0.mk (show eqL eqI xs ys = eqL eqI (xs.drop (k + 1)) (ys.drop (k + 1)) from by rw [HS.out, show eqI x y = true from he, Bool.true_and])
    have hq : (x != y) = false := by rw [bne_eq_false_iff_eq]; exact beq_iff_eq.mp he
    clear he HS HH
    go_wp2_with fail
    go_roundg (xs.length - (k + 1))
    case measure => have := HLT.out; omega
    case rel => exact ⟨k + 1, HLT.out, rfl, by go_num, HK, HB2⟩
  ·have hd : decide ((k : Int) < (xs.length : Int)) = false := decide_eq_false (by omega)
   have HK := Aside0.mk (show eqL eqI xs ys = true from by rw [HS.out, List.drop_of_length_le (by omega), List.drop_of_length_le (by have := HL.out; omega)]; rfl)
   clear HS
   go_wp2_with fail
   go_ret
   exact ⟨ret_b HK.out, HB.out⟩
 ·have hlb : ((xs.length : Int) != (ys.length : Int)) = true := by rw [bne_iff_ne]; omega
  have HK := Aside0.mk (eqL_len eqI xs ys hl)
  clear hl
  go_enter Try.func14, Try.ntmps14
  go_wp2_with fail
  go_ret
  exact ⟨ret_b HK.out, HB.out⟩
end Go.Proofs.Ytbgcemijihpakaa.XA
end
section
namespace Go.Proofs.Ytbgcemijihpakaa.XA
set_option linter.unusedVariables false
set_option linter.unusedSimpArgs false
open Go.RowKit Go.WideMaps Go.Maps Go.Proofs.YtbgcemijihpakaaW.PrintWords Go.Proofs.YtbgcemijihpakaaW.PrintLast Go.Proofs.YtbgcemijihpakaaW.PrintMore
theorem eqI_self (l : List Int) : eqL eqI l l = true := (eqL_iff eqI_iff l l).mpr rfl
set_option maxRecDepth 1000000 in
set_option maxHeartbeats 4000000 in
theorem back_walk (V : TV) (t : S33) (A : Option Addr) (c : Nat) (b : List Int) (w : World) (ht : Tb w V t) (ty : TyTab t) (hC : (Kd.int .u8).C w A b.length b) (hc : b.length ≤ c) (hB : ∀ x ∈ b, 0 ≤ x ∧ x ≤ 255) :
  Calls Try.prog 4 #[.agg (arr V t), .slice A b.length c] w fun e w' => e = .returned (.bool true) ∧ Below w.heap.size w w' := by
 have HS := Aside0.mk (At.made ht)
 have HW := Aside0.mk (below_a w (.cells (arr V t) 33))
 have HC := Aside0.mk (Kd.C_below hC HW.out)
 have HCC := Aside0.mk hc
 have HBY := Aside0.mk hB
 have HTY := Aside0.mk ty
 have HOK := Aside0.mk (fun h : tabOk t = true => (small_of h ty).tab)
 clear ht ty hC hc hB
 unfold arr at *
 go_enter Try.func4, Try.ntmps4
 go_upto_region 1 with fail
 generalize w.alloc (.cells #[.int .i64 t.f0, .int .i64 t.f1, .slice V.a2 t.f2.length V.k2, .slice V.a3 t.f3.length V.k3, .slice V.a4 t.f4.length V.k4, .slice V.a5 t.f5.length V.k5, .slice V.a6 t.f6.length V.k6, .slice V.a7 t.f7.length V.k7, .slice V.a8 t.f8.length V.k8, .int .i64 t.f9, .int .i64 t.f10, .int .i64 t.f11, .int .i64 t.f12] 33) = w1 at *
 obtain ⟨B0, hB0⟩ : ∃ Q, Q = w.heap.size := ⟨_, rfl⟩
 rw [← hB0] at HS ⊢
 clear hB0
 go_wp2_with ((with_reducible refine gate_dst (N := 14) rfl ?_); refine load33 HS.out rfl (.tmp 2) rfl rfl ?_)
 have hx := enc_calls V t w1 HS.out.tb HOK.out
 unfold arr at hx
 refine hx.mono ?_
 clear hx
 rintro e w2 ⟨v, rfl, r2, b2⟩
 replace HS := Aside0.mk (HS.out.below b2)
 replace HC := Aside0.mk (Kd.C_below HC.out b2)
 replace HW := Aside0.mk (HW.out.trans (b2.mono HW.out.size))
 obtain ⟨Ax, cx, hv, hcx, hCx⟩ := Kd.R_reads r2
 subst hv
 have HX := Aside0.mk hCx
 have HCX := Aside0.mk hcx
 clear r2 b2 hCx hcx
 go_upto_region 2 with fail
 refine start_ (n := 8) (S := fun w_ => Below w2.heap.size w2 w_) (ds := []) #[false, false, false, false, false, false, false, false] (by kernel_rfl) rfl rfl (drew_below w2) (fun hHeld => ?_)
 have HH := Aside0.mk hHeld
 clear hHeld
 generalize w2.drew = wv at HH ⊢
 refine pure_ (i := 0) (N := some 18) (v := ?_) (a' := ?_) #[true, false, false, false, false, false, false, false] rfl rfl (by kernel_rfl) (fun _ _ _ h => h) (Or.inl ⟨by rfl, ?_⟩) ?_ ?_
 rotate_left
 ·intro w_
  go_simp
  with_reducible rfl
 rotate_left
 ·simp only [Act.put, List.setIfInBounds_toArray, List.set_cons_zero, List.set_cons_succ, i64_w, i32_w]
  rfl
 refine take_ (i := 3) (N := some 21) (v := ?_) (a' := ?_) #[true, false, false, true, false, false, false, false] rfl rfl (by kernel_rfl) (fun _ _ _ h => h) (Or.inl ⟨by rfl, ?_⟩) HH.out ?_ ?_
 rotate_left
 ·rintro w_ s
  refine run33 (HS.out.below s) (.tmp 2) ?_ ?_ <;> rfl
 rotate_left
 ·simp only [Act.put, List.setIfInBounds_toArray, List.set_cons_zero, List.set_cons_succ, i64_w, i32_w]
  rfl
 refine one_ (i := 1) (N := some 19) #[true, true, false, true, false, false, false, false] rfl rfl (by kernel_rfl) (by decide) (fun K hK => ?_)
 refine goes_ Try.func8 (by kernel_rfl) rfl #[.int .i64 (tabE t)] (by rfl) rfl rfl (by first | rfl | (simp only [List.map_toArray, List.map_cons, List.map_nil]; rfl) | simp) ?_
 refine (num_calls (tabE t) wv).mono ?_
 rintro e wb ⟨rfl, rfl⟩
 have B2 := Below.refl wv.heap.size wv
 refine ⟨_, rfl, ?_⟩
 have HH2 := Aside0.mk (HH.out.trans (B2.mono HH.out.size))
 clear HH B2
 have HH := HH2
 clear HH2
 refine hK.out _ _ HH.out (fun _ => ?_)
 clear hK K
 refine norm_ (a' := ?_) ?_ ?_
 rotate_left
 ·show Act.put _ (some 19) _ = _
  simp only [Act.put, List.setIfInBounds_toArray, List.set_cons_zero, List.set_cons_succ, i64_w, i32_w]
  rfl
 refine pure_ (i := 2) (N := some 20) (v := ?_) (a' := ?_) #[true, true, true, true, false, false, false, false] rfl rfl (by kernel_rfl) (fun _ _ _ h => h) (Or.inl ⟨by rfl, ?_⟩) ?_ ?_
 rotate_left
 ·intro w_
  go_simp
  with_reducible rfl
 rotate_left
 ·simp only [Act.put, List.setIfInBounds_toArray, List.set_cons_zero, List.set_cons_succ, i64_w, i32_w]
  rfl
 refine one_ (i := 4) (N := some 22) #[true, true, true, true, true, false, false, false] rfl rfl (by kernel_rfl) (by decide) (fun K hK => ?_)
 refine goes_ Try.func10 (by kernel_rfl) rfl #[.agg #[.int .i64 t.f0, .int .i64 t.f1, .slice V.a2 t.f2.length V.k2, .slice V.a3 t.f3.length V.k3, .slice V.a4 t.f4.length V.k4, .slice V.a5 t.f5.length V.k5, .slice V.a6 t.f6.length V.k6, .slice V.a7 t.f7.length V.k7, .slice V.a8 t.f8.length V.k8, .int .i64 t.f9, .int .i64 t.f10, .int .i64 t.f11, .int .i64 t.f12]] (by rfl) rfl rfl (by first | rfl | (simp only [List.map_toArray, List.map_cons, List.map_nil]; rfl) | simp) ?_
 have hx := check_calls V t wv (HS.out.below HH.out).tb
 unfold arr at hx
 refine hx.mono ?_
 clear hx
 rintro e wb ⟨rfl, B2⟩
 refine ⟨_, rfl, ?_⟩
 have HH2 := Aside0.mk (HH.out.trans (B2.mono HH.out.size))
 clear HH B2
 have HH := HH2
 clear HH2
 refine hK.out _ _ HH.out (fun _ => ?_)
 clear hK K
 refine norm_ (a' := ?_) ?_ ?_
 rotate_left
 ·show Act.put _ (some 22) _ = _
  simp only [Act.put, List.setIfInBounds_toArray, List.set_cons_zero, List.set_cons_succ, i64_w, i32_w]
  rfl
 refine one_ (i := 5) (N := some 23) #[true, true, true, true, true, true, false, false] rfl rfl (by kernel_rfl) (by decide) (fun K hK => ?_)
 refine goes_ Try.func8 (by kernel_rfl) rfl #[.int .i64 (tabE t)] (by rfl) rfl rfl (by first | rfl | (simp only [List.map_toArray, List.map_cons, List.map_nil]; rfl) | simp) ?_
 refine (num_calls (tabE t) wb).mono ?_
 rintro e wc ⟨rfl, rfl⟩
 have B2 := Below.refl wb.heap.size wb
 refine ⟨_, rfl, ?_⟩
 have HH2 := Aside0.mk (HH.out.trans (B2.mono HH.out.size))
 clear HH B2
 have HH := HH2
 clear HH2
 refine hK.out _ _ HH.out (fun _ => ?_)
 clear hK K
 refine norm_ (a' := ?_) ?_ ?_
 rotate_left
 ·show Act.put _ (some 23) _ = _
  simp only [Act.put, List.setIfInBounds_toArray, List.set_cons_zero, List.set_cons_succ, i64_w, i32_w]
  rfl
 refine pure_ (i := 6) (N := some 24) (v := ?_) (a' := ?_) #[true, true, true, true, true, true, true, false] rfl rfl (by kernel_rfl) (fun _ _ _ h => h) (Or.inl ⟨by rfl, ?_⟩) ?_ ?_
 rotate_left
 ·intro w_
  go_simp
  with_reducible rfl
 rotate_left
 ·simp only [Act.put, List.setIfInBounds_toArray, List.set_cons_zero, List.set_cons_succ, i64_w, i32_w]
  rfl
 refine pure_ (i := 7) (N := some 25) (v := ?_) (a' := ?_) #[true, true, true, true, true, true, true, true] rfl rfl (by kernel_rfl) (fun _ _ _ h => h) (Or.inl ⟨by rfl, ?_⟩) ?_ ?_
 rotate_left
 ·intro w_
  go_simp
  with_reducible rfl
 rotate_left
 ·simp only [Act.put, List.setIfInBounds_toArray, List.set_cons_zero, List.set_cons_succ, i64_w, i32_w]
  rfl
 refine done_ (by kernel_rfl) ?_
 have HS2 := Aside0.mk (HS.out.below HH.out)
 have HC2 := Aside0.mk (Kd.C_below HC.out HH.out)
 have HX2 := Aside0.mk (Kd.C_below HX.out HH.out)
 have HW2 := Aside0.mk (HW.out.trans (HH.out.mono HW.out.size))
 clear HS HC HX HW HH
 go_upto_region 4 with fail
 go_wp2_with fail
 refine (num_calls (tabE t) wb).mono ?_
 rintro e wb' ⟨rfl, rfl⟩
 rcases hk : tabOk t with _ | _
 case false =>
  have hE : tabE t = 90 := by unfold tabE; rw [hk]; rfl
  rw [hE]
  clear hk hE HX2 HCX
  go_upto_region 8 with fail
  go_wp2_with fail
  refine (dec_calls A c b wb HC2.out HCC.out HBY.out).mono ?_
  rintro e z1 hd
  rcases hp : imgP b with er | u
  case error =>
   obtain ⟨hb, rfl⟩ := dec_no hp hd
   have hne := imgP_err hp
   have h1 : ¬ er = 0 := hne
   have h2 : (er == 0) = false := beq_eq_false_iff_ne.mpr hne
   have HBa := Aside0.mk (hb.trans ((below_a z1 (.cells z33A 33)).mono hb.size))
   clear hb hd hp hne
   unfold z33A at HBa ⊢
   go_upto_region 9 with fail
   generalize z1.alloc _ = z2 at *
   go_wp2_with fail
   refine (num_calls er z2).mono ?_
   rintro e z2' ⟨rfl, rfl⟩
   go_wp2_with fail
   refine (alive_calls z2).mono ?_
   rintro e z3 ⟨rfl, hb3⟩
   have HF := Aside0.mk ((HW2.out.trans (HBa.out.mono HW2.out.size)).trans (hb3.mono (HW2.out.trans (HBa.out.mono HW2.out.size)).size))
   clear hb3
   go_wp2_with fail
   go_ret
   exact ⟨rfl, HF.out⟩
  case ok =>
   obtain ⟨hb, U, rfl, r⟩ := dec_yes hp hd
   have HI := Aside0.mk (img_inv HBY.out hp)
   have HTU := Aside0.mk (small_of (tabE_ok HI.out.ok) (img_ty HBY.out hp))
   have HSU := Aside0.mk (At.made (tb_of r (bd_of HTU.out)))
   have HBa := Aside0.mk (hb.trans ((below_a z1 (.cells (arr U u) 33)).mono hb.size))
   have HEU := Aside0.mk (show encL u = b from by unfold encL; rw [tabE_ok HI.out.ok]; exact HI.out.eq)
   clear hd r hb hp
   unfold arr at HSU HBa ⊢
   go_upto_region 9 with fail
   generalize z1.heap.size = BU at *
   generalize z1.alloc _ = z2 at *
   have HC3 := Aside0.mk (Kd.C_below HC2.out HBa.out)
   have HW3 := Aside0.mk (HW2.out.trans (HBa.out.mono HW2.out.size))
   clear HBa HC2 HW2
   go_wp2_with fail
   refine (num_calls 0 z2).mono ?_
   rintro e z2' ⟨rfl, rfl⟩
   go_wp2_with ((with_reducible refine gate_dst (N := 58) rfl ?_); refine load33 HSU.out rfl (.tmp 9) rfl rfl ?_)
   have hx := enc_calls U u z2 HSU.out.tb (fun _ => HTU.out.tab)
   unfold arr at hx
   refine hx.mono ?_
   clear hx
   rintro e z3 ⟨vy, rfl, ry, by_⟩
   rw [HEU.out] at ry
   rw [HI.out.ok]
   obtain ⟨Ay, cy, hvy, hcy, hCy⟩ := Kd.R_reads ry
   subst hvy
   have HY := Aside0.mk hCy
   have HCY := Aside0.mk hcy
   replace HC3 := Aside0.mk (Kd.C_below HC3.out by_)
   replace HSU := Aside0.mk (HSU.out.below by_)
   replace HW3 := Aside0.mk (HW3.out.trans (by_.mono HW3.out.size))
   clear ry by_ hcy hCy
   go_upto_region 11 with fail
   go_wp2_with fail
   refine (num_calls 0 z3).mono ?_
   rintro e z3' ⟨rfl, rfl⟩
   go_wp2_with fail
   refine (bsame_calls Ay A cy c b b z3 HY.out HC3.out HCY.out HCC.out).mono ?_
   rintro e z4 ⟨rfl, hb4⟩
   rw [eqI_self]
   replace HSU := Aside0.mk (HSU.out.below hb4)
   replace HW3 := Aside0.mk (HW3.out.trans (hb4.mono HW3.out.size))
   clear hb4 HY HC3 HCY
   go_wp2_with ((with_reducible refine gate_dst (N := 72) rfl ?_); (refine gate_guard (by rfl) ?_; dsimp only); refine load33 HSU.out rfl (.tmp 9) rfl rfl ?_)
   have hx := check_calls U u z4 HSU.out.tb
   unfold arr at hx
   refine hx.mono ?_
   clear hx
   rintro e z5 ⟨rfl, hb5⟩
   rw [HI.out.ok]
   replace HW3 := Aside0.mk (HW3.out.trans (hb5.mono HW3.out.size))
   clear hb5
   go_wp2_with fail
   refine (num_calls 0 z5).mono ?_
   rintro e z5' ⟨rfl, rfl⟩
   go_wp2_with fail
   refine (alive_calls z5).mono ?_
   rintro e z6 ⟨rfl, hb6⟩
   have HF := Aside0.mk (HW3.out.trans (hb6.mono HW3.out.size))
   clear hb6
   go_wp2_with fail
   go_ret
   exact ⟨rfl, HF.out⟩
 case true =>
  have hE : tabE t = 0 := by unfold tabE; rw [hk]; rfl
  have hL : encL t = imgL t := by unfold encL; rw [hk]; rfl
  have HDT := Aside0.mk (back_of hk HTY.out)
  rw [hL] at HX2 HCX
  rw [hE, hL]
  clear hk hE hL
  go_upto_region 5 with fail
  go_wp2_with fail
  refine (dec_calls Ax cx (imgL t) wb HX2.out HCX.out (imgL_bytes t)).mono ?_
  rintro e z1 hd
  obtain ⟨hb, U, rfl, r⟩ := dec_yes HDT.out hd
  have HSU := Aside0.mk (At.made (tb_of r HS2.out.tb.bd))
  have HBa := Aside0.mk (hb.trans ((below_a z1 (.cells (arr U t) 33)).mono hb.size))
  clear hd r hb
  unfold arr at HSU HBa ⊢
  go_upto_region 6 with fail
  generalize z1.heap.size = BU at *
  generalize z1.alloc _ = z2 at *
  replace HS2 := Aside0.mk (HS2.out.below HBa.out)
  replace HC2 := Aside0.mk (Kd.C_below HC2.out HBa.out)
  replace HW2 := Aside0.mk (HW2.out.trans (HBa.out.mono HW2.out.size))
  clear HX2 HCX HBa
  go_wp2_with fail
  refine (num_calls 0 z2).mono ?_
  rintro e z2' ⟨rfl, rfl⟩
  go_wp2_with (first | ((with_reducible refine gate_dst (N := 38) rfl ?_); (refine gate_guard (by rfl) ?_; dsimp only); refine load33 HS2.out rfl (.tmp 2) rfl rfl ?_) | ((with_reducible refine gate_dst (N := 39) rfl ?_); (refine gate_guard (by rfl) ?_; dsimp only); refine load33 HSU.out rfl (.tmp 7) rfl rfl ?_))
  have hx := same12_calls V U t t z2 HS2.out.tb HSU.out.tb
  unfold arr at hx
  refine hx.mono ?_
  clear hx
  rintro e z3 ⟨rfl, hb3⟩
  rw [sameB_self]
  replace HS2 := Aside0.mk (HS2.out.below hb3)
  replace HSU := Aside0.mk (HSU.out.below hb3)
  replace HC2 := Aside0.mk (Kd.C_below HC2.out hb3)
  replace HW2 := Aside0.mk (HW2.out.trans (hb3.mono HW2.out.size))
  clear hb3
  go_wp2_with (first | ((with_reducible refine gate_dst (N := 44) rfl ?_); (refine gate_guard (by rfl) ?_; dsimp only); refine load33 HS2.out rfl (.tmp 2) rfl rfl ?_) | ((with_reducible refine gate_dst (N := 45) rfl ?_); (refine gate_guard (by rfl) ?_; dsimp only); refine load33 HSU.out rfl (.tmp 7) rfl rfl ?_))
  have hx := same13_calls V U t t z3 HS2.out.tb HSU.out.tb
  unfold arr at hx
  refine hx.mono ?_
  clear hx
  rintro e z4 ⟨rfl, hb3⟩
  rw [sameB_self]
  replace HC2 := Aside0.mk (Kd.C_below HC2.out hb3)
  replace HW2 := Aside0.mk (HW2.out.trans (hb3.mono HW2.out.size))
  clear hb3 HS2 HSU
  go_upto_region 8 with fail
  go_wp2_with fail
  refine (dec_calls A c b z4 HC2.out HCC.out HBY.out).mono ?_
  rintro e y1 hd
  rcases hp : imgP b with er | u
  case error =>
   obtain ⟨hb, rfl⟩ := dec_no hp hd
   have hne := imgP_err hp
   have h1 : ¬ er = 0 := hne
   have h2 : (er == 0) = false := beq_eq_false_iff_ne.mpr hne
   have HBa := Aside0.mk (hb.trans ((below_a y1 (.cells z33A 33)).mono hb.size))
   clear hb hd hp hne
   unfold z33A at HBa ⊢
   go_upto_region 9 with fail
   generalize y1.alloc _ = y2 at *
   go_wp2_with fail
   refine (num_calls er y2).mono ?_
   rintro e y2' ⟨rfl, rfl⟩
   go_wp2_with fail
   refine (alive_calls y2).mono ?_
   rintro e y3 ⟨rfl, hb3⟩
   have HF := Aside0.mk ((HW2.out.trans (HBa.out.mono HW2.out.size)).trans (hb3.mono (HW2.out.trans (HBa.out.mono HW2.out.size)).size))
   clear hb3
   go_wp2_with fail
   go_ret
   exact ⟨rfl, HF.out⟩
  case ok =>
   obtain ⟨hb, U, rfl, r⟩ := dec_yes hp hd
   have HI := Aside0.mk (img_inv HBY.out hp)
   have HTU := Aside0.mk (small_of (tabE_ok HI.out.ok) (img_ty HBY.out hp))
   have HSU := Aside0.mk (At.made (tb_of r (bd_of HTU.out)))
   have HBa := Aside0.mk (hb.trans ((below_a y1 (.cells (arr U u) 33)).mono hb.size))
   have HEU := Aside0.mk (show encL u = b from by unfold encL; rw [tabE_ok HI.out.ok]; exact HI.out.eq)
   clear hd r hb hp
   unfold arr at HSU HBa ⊢
   go_upto_region 9 with fail
   generalize y1.heap.size = BU at *
   generalize y1.alloc _ = y2 at *
   have HC3 := Aside0.mk (Kd.C_below HC2.out HBa.out)
   have HW3 := Aside0.mk (HW2.out.trans (HBa.out.mono HW2.out.size))
   clear HBa HC2 HW2
   go_wp2_with fail
   refine (num_calls 0 y2).mono ?_
   rintro e y2' ⟨rfl, rfl⟩
   go_wp2_with ((with_reducible refine gate_dst (N := 58) rfl ?_); refine load33 HSU.out rfl (.tmp 9) rfl rfl ?_)
   have hx := enc_calls U u y2 HSU.out.tb (fun _ => HTU.out.tab)
   unfold arr at hx
   refine hx.mono ?_
   clear hx
   rintro e y3 ⟨vy, rfl, ry, by_⟩
   rw [HEU.out] at ry
   rw [HI.out.ok]
   obtain ⟨Ay, cy, hvy, hcy, hCy⟩ := Kd.R_reads ry
   subst hvy
   have HY := Aside0.mk hCy
   have HCY := Aside0.mk hcy
   replace HC3 := Aside0.mk (Kd.C_below HC3.out by_)
   replace HSU := Aside0.mk (HSU.out.below by_)
   replace HW3 := Aside0.mk (HW3.out.trans (by_.mono HW3.out.size))
   clear ry by_ hcy hCy
   go_upto_region 11 with fail
   go_wp2_with fail
   refine (num_calls 0 y3).mono ?_
   rintro e y3' ⟨rfl, rfl⟩
   go_wp2_with fail
   refine (bsame_calls Ay A cy c b b y3 HY.out HC3.out HCY.out HCC.out).mono ?_
   rintro e y5 ⟨rfl, hb4⟩
   rw [eqI_self]
   replace HSU := Aside0.mk (HSU.out.below hb4)
   replace HW3 := Aside0.mk (HW3.out.trans (hb4.mono HW3.out.size))
   clear hb4 HY HC3 HCY
   go_wp2_with ((with_reducible refine gate_dst (N := 72) rfl ?_); (refine gate_guard (by rfl) ?_; dsimp only); refine load33 HSU.out rfl (.tmp 9) rfl rfl ?_)
   have hx := check_calls U u y5 HSU.out.tb
   unfold arr at hx
   refine hx.mono ?_
   clear hx
   rintro e y6 ⟨rfl, hb5⟩
   rw [HI.out.ok]
   replace HW3 := Aside0.mk (HW3.out.trans (hb5.mono HW3.out.size))
   clear hb5
   go_wp2_with fail
   refine (num_calls 0 y6).mono ?_
   rintro e y6' ⟨rfl, rfl⟩
   go_wp2_with fail
   refine (alive_calls y6).mono ?_
   rintro e y7 ⟨rfl, hb6⟩
   have HF := Aside0.mk (HW3.out.trans (hb6.mono HW3.out.size))
   clear hb6
   go_wp2_with fail
   go_ret
   exact ⟨rfl, HF.out⟩
end Go.Proofs.Ytbgcemijihpakaa.XA
end
