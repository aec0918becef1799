/- plain: the parts lie end to end. -/
import Derived.Test.YtbgcemijihpakaaG37
import Derived.Test.YtbgcemijihpakaaG44
import Derived.Test.YtbgcemijihpakaaG40
import Derived.Test.YtbgcemijihpakaaG46
section
namespace Go.Proofs.Ytbgcemijihpakaa.XA
set_option linter.unusedVariables false
set_option linter.unusedSimpArgs false
open Go.RowKit Go.WideMaps Go.Maps Go.Proofs.YtbgcemijihpakaaW.PrintWords Go.Proofs.YtbgcemijihpakaaW.PrintLast Go.Proofs.YtbgcemijihpakaaW.PrintMore
theorem flat_zero {α : Type} {f : α → List Int} {xs : List α} (h : ∀ x ∈ xs, 0 < (f x).length) : (xs.flatMap f).length = 0 ↔ xs.length = 0 := by
 cases xs with
 | nil => simp
 | cons x xs =>
  have := h x (List.mem_cons_self ..)
  simp only [List.flatMap_cons, List.length_append, List.length_cons]
  omega
theorem le1 {x : Int} (h : By x) : (leN 1 x).length = 1 := leN_full h.1 (by have := h.2; omega)
theorem part_zero {t : S33} (h : Small t) :
  ((t.f2.flatMap encTask).length = 0 ↔ t.f2.length = 0) ∧ ((t.f3.flatMap encRing).length = 0 ↔ t.f3.length = 0) ∧ ((t.f4.flatMap encRes).length = 0 ↔ t.f4.length = 0) ∧ ((t.f5.flatMap encCtr).length = 0 ↔ t.f5.length = 0) ∧
  ((t.f6.flatMap encAlm).length = 0 ↔ t.f6.length = 0) ∧ ((t.f7.flatMap encIsr).length = 0 ↔ t.f7.length = 0) ∧ ((t.f8.flatMap encMsg).length = 0 ↔ t.f8.length = 0) := by
 refine ⟨flat_zero fun x hx => ?_, flat_zero fun x hx => ?_, flat_zero fun x hx => ?_, flat_zero fun x hx => ?_, flat_zero fun x hx => ?_, flat_zero fun x hx => ?_, flat_zero fun x hx => ?_⟩
 ·have := le1 (h.img.tk x hx).1
  unfold encTask bytes1
  simp only [List.flatMap_cons, List.length_append]
  omega
 ·have := le1 (h.img.rg x hx).1
  unfold encRing bytes1
  simp only [List.flatMap_cons, List.length_append]
  omega
 ·have := le1 (h.img.rs x hx)
  unfold encRes bytes1
  simp only [List.flatMap_cons, List.length_append]
  omega
 ·have := leN_full (n := 4) (h.img.ct x hx).1.1 (by have := (h.img.ct x hx).1.2; omega)
  unfold encCtr
  simp only [List.flatMap_cons, List.length_append]
  omega
 ·have := le1 (h.img.al x hx).1
  unfold encAlm bytes1
  simp only [List.flatMap_cons, List.length_append]
  omega
 ·have := le1 (h.img.is x hx).1
  unfold encIsr bytes1
  simp only [List.flatMap_cons, List.length_append]
  omega
 ·have := le1 (h.img.ms x hx).1
  unfold encMsg bytes1
  simp only [List.flatMap_cons, List.length_append]
  omega
/-- how many rows each part should have -/
def nsL (t : S33) : List Int := [1, (t.f2.length : Int), (t.f3.length : Int), (t.f4.length : Int), (t.f5.length : Int), (t.f6.length : Int), (t.f7.length : Int), (t.f8.length : Int), 1]
/-- where each part should begin -/
def offP (t : S33) (k : Nat) : Int := if k = 0 then 0 else if k ≤ 8 then 28 + mk t (k - 1) else (imgL t).length
structure PartOk (t : S33) (k : Nat) (x : S51) : Prop where
 kind : x.f0 = (k : Int) + 1
 off : x.f1 = offP t k
 len : 0 ≤ x.f2
 rows : x.f3 = (nsL t).getD k 0
 none : (x.f2 == 0) = (x.f3 == 0)
 next : offP t (k + 1) = offP t k + x.f2
 small : 0 ≤ offP t k ∧ offP t k ≤ 60000100 ∧ x.f2 ≤ 60000100
theorem marks_eq (t : S33) : marks 0 (parts t) = [0, ((t.f2.flatMap encTask).length : Int), ((t.f2.flatMap encTask).length : Int) + (t.f3.flatMap encRing).length, ((t.f2.flatMap encTask).length : Int) + (t.f3.flatMap encRing).length + (t.f4.flatMap encRes).length,
  ((t.f2.flatMap encTask).length : Int) + (t.f3.flatMap encRing).length + (t.f4.flatMap encRes).length + (t.f5.flatMap encCtr).length, ((t.f2.flatMap encTask).length : Int) + (t.f3.flatMap encRing).length + (t.f4.flatMap encRes).length + (t.f5.flatMap encCtr).length + (t.f6.flatMap encAlm).length,
  ((t.f2.flatMap encTask).length : Int) + (t.f3.flatMap encRing).length + (t.f4.flatMap encRes).length + (t.f5.flatMap encCtr).length + (t.f6.flatMap encAlm).length + (t.f7.flatMap encIsr).length,
  ((t.f2.flatMap encTask).length : Int) + (t.f3.flatMap encRing).length + (t.f4.flatMap encRes).length + (t.f5.flatMap encCtr).length + (t.f6.flatMap encAlm).length + (t.f7.flatMap encIsr).length + (t.f8.flatMap encMsg).length] := by
 unfold parts
 simp only [marks, Nat.zero_add, List.cons.injEq, and_true, true_and]
 omega
theorem body_sum (t : S33) : (encBody t).length = (t.f2.flatMap encTask).length + (t.f3.flatMap encRing).length + (t.f4.flatMap encRes).length + (t.f5.flatMap encCtr).length + (t.f6.flatMap encAlm).length + (t.f7.flatMap encIsr).length + (t.f8.flatMap encMsg).length := by
 unfold encBody parts
 simp only [List.flatten_cons, List.flatten_nil, List.length_append, List.length_nil]
 omega
theorem part_ok {t : S33} (h : Small t) {k : Nat} (hk : k < 9) : PartOk t k ((partsL t (imgL t).length).getD k z51) := by
 obtain ⟨p2, p3, p4, p5, p6, p7, p8⟩ := part_zero h
 obtain ⟨hL, hb⟩ := imgL_len h
 have hs := body_sum t
 have hm := marks_eq t
 have z : ∀ (a : Nat) (b : Nat), (a = 0 ↔ b = 0) → (((a : Int)) == 0) = (((b : Int)) == 0) := fun a b e => by
  rw [Bool.eq_iff_iff, beq_iff_eq, beq_iff_eq]
  omega
 have hz : ∀ (x y : Int) (a : Nat) (b : Nat), x = (a : Int) → y = (b : Int) → (a = 0 ↔ b = 0) → (x == 0) = (y == 0) := fun x y a b e1 e2 e => by rw [e1, e2]; exact z a b e
 unfold partsL partsN
 generalize (t.f2.flatMap encTask).length = a2 at *
 generalize (t.f3.flatMap encRing).length = a3 at *
 generalize (t.f4.flatMap encRes).length = a4 at *
 generalize (t.f5.flatMap encCtr).length = a5 at *
 generalize (t.f6.flatMap encAlm).length = a6 at *
 generalize (t.f7.flatMap encIsr).length = a7 at *
 generalize (t.f8.flatMap encMsg).length = a8 at *
 have hmk : ∀ i, mk t i = (marks 0 (parts t)).getD i 0 := fun _ => rfl
 rcases (by omega : k = 0 ∨ k = 1 ∨ k = 2 ∨ k = 3 ∨ k = 4 ∨ k = 5 ∨ k = 6 ∨ k = 7 ∨ k = 8) with rfl | rfl | rfl | rfl | rfl | rfl | rfl | rfl | rfl
 all_goals
  refine ⟨?_, ?_, ?_, ?_, ?_, ?_, ?_⟩
  all_goals simp [partRow, offP, hmk, hm, nsL, cntsL, List.range_succ]
  all_goals first
   | omega
   | (refine hz _ _ a2 _ (by omega) rfl p2)
   | (refine hz _ _ a3 _ (by omega) rfl p3)
   | (refine hz _ _ a4 _ (by omega) rfl p4)
   | (refine hz _ _ a5 _ (by omega) rfl p5)
   | (refine hz _ _ a6 _ (by omega) rfl p6)
   | (refine hz _ _ a7 _ (by omega) rfl p7)
   | (refine hz _ _ a8 _ (by omega) rfl p8)
theorem leN2 {x : Int} (h : 0 ≤ x ∧ x ≤ 65535) : leN 2 x = [x % 256, x / 256] := by
 unfold leN
 rw [if_pos (by omega)]
 simp [List.range_succ]
 omega
end Go.Proofs.Ytbgcemijihpakaa.XA
end
section
namespace Go.Proofs.Ytbgcemijihpakaa.XA
set_option linter.unusedVariables false
set_option linter.unusedSimpArgs false
open Go.RowKit Go.WideMaps Go.Maps Go.Proofs.YtbgcemijihpakaaW.PrintWords Go.Proofs.YtbgcemijihpakaaW.PrintLast Go.Proofs.YtbgcemijihpakaaW.PrintMore
theorem part_no {b : List Int} {w w' : World} {e : Ending} {c : Int} (h : imgP b = .error c) (hd : PartOut b w e w') : Below w.heap.size w w' ∧ e = .returned (.tuple #[.slice none 0 0, .int .i64 c]) := by
 unfold PartOut at hd
 rw [h] at hd
 exact hd
theorem imgP_nil : imgP [] = .error 100 := imgP_100 (.inl (by simp))
set_option maxRecDepth 1000000 in
set_option maxHeartbeats 20000000 in
theorem parts_walk (V : TV) (t : S33) (w : World) (ht : Tb w V t) (ty : TyTab t) :
  Calls Try.prog 6 #[.agg (arr V t)] w fun e w' => e = .returned (.bool true) ∧ Below w.heap.size w w' := by
 have HS := Aside0.mk (At.made ht)
 have HW := Aside0.mk (below_a w (.cells (arr V t) 33))
 have HTY := Aside0.mk ty
 have HOK := Aside0.mk (fun h : tabOk t = true => (small_of h ty).tab)
 clear ht ty
 unfold arr at *
 go_enter Try.func6, Try.ntmps6
 go_upto_region 1 with fail
 generalize w.alloc (.cells #[.int .i64 t.f0, .int .i64 t.f1, .slice V.a2 t.f2.length V.k2, .slice V.a3 t.f3.length V.k3, .slice V.a4 t.f4.length V.k4, .slice V.a5 t.f5.length V.k5, .slice V.a6 t.f6.length V.k6, .slice V.a7 t.f7.length V.k7, .slice V.a8 t.f8.length V.k8, .int .i64 t.f9, .int .i64 t.f10, .int .i64 t.f11, .int .i64 t.f12] 33) = w1 at *
 obtain ⟨B0, hB0⟩ : ∃ Q, Q = w.heap.size := ⟨_, rfl⟩
 rw [← hB0] at HS ⊢
 clear hB0
 go_wp2_with ((with_reducible refine gate_dst (N := 12) rfl ?_); refine load33 HS.out rfl (.tmp 1) rfl rfl ?_)
 have hx := enc_calls V t w1 HS.out.tb HOK.out
 unfold arr at hx
 refine hx.mono ?_
 clear hx
 rintro e w2 ⟨v, rfl, r2, b2⟩
 replace HS := Aside0.mk (HS.out.below b2)
 replace HW := Aside0.mk (HW.out.trans (b2.mono HW.out.size))
 obtain ⟨Ax, cx, hv, hcx, hCx⟩ := Kd.R_reads r2
 subst hv
 have HX := Aside0.mk hCx
 have HCX := Aside0.mk hcx
 clear r2 b2 hCx hcx
 rcases hk : tabOk t with _ | _
 case false =>
  have hE : tabE t = 90 := by unfold tabE; rw [hk]; rfl
  have hL : encL t = [] := by unfold encL; rw [hk]; rfl
  rw [hL] at HX HCX
  rw [hE, hL]
  clear hk hE hL
  go_upto_region 2 with fail
  go_wp2_with fail
  refine (parts_calls Ax cx [] w2 HX.out HCX.out (by simp)).mono ?_
  rintro e w3 hd
  obtain ⟨hb, rfl⟩ := part_no imgP_nil hd
  replace HW := Aside0.mk (HW.out.trans (hb.mono HW.out.size))
  clear hd hb
  go_upto_region 3 with fail
  go_wp2_with fail
  refine (num_calls 90 w3).mono ?_
  rintro e w3' ⟨rfl, rfl⟩
  go_wp2_with fail
  refine (num_calls 100 w3).mono ?_
  rintro e w3' ⟨rfl, rfl⟩
  go_wp2_with fail
  refine (alive_calls w3).mono ?_
  rintro e w4 ⟨rfl, hb⟩
  have HF := Aside0.mk (HW.out.trans (hb.mono HW.out.size))
  go_wp2_with fail
  go_ret
  exact ⟨rfl, HF.out⟩
 have hE : tabE t = 0 := by unfold tabE; rw [hk]; rfl
 have hL : encL t = imgL t := by unfold encL; rw [hk]; rfl
 have HDT := Aside0.mk (back_of hk HTY.out)
 have HSM := Aside0.mk (small_of hk HTY.out)
 rw [hL] at HX HCX
 rw [hE, hL]
 clear hk hE hL
 go_upto_region 2 with fail
 go_wp2_with fail
 refine (parts_calls Ax cx (imgL t) w2 HX.out HCX.out (imgL_bytes t)).mono ?_
 rintro e w3 hd
 obtain ⟨hb, vp, rfl, rp⟩ := part_yes HDT.out hd
 replace HW := Aside0.mk (HW.out.trans (hb.mono HW.out.size))
 replace HS := Aside0.mk (HS.out.below hb)
 replace HX := Aside0.mk (Kd.C_below HX.out hb)
 obtain ⟨Ap, cp, hvp, hcp, hCp⟩ := Kd.R_reads rp
 have hpl : (partsL t (imgL t).length).length = 9 := by unfold partsL; rw [List.length_append, partsN_len]; rfl
 rw [hpl] at hvp
 subst hvp
 have HPC := Aside0.mk hCp
 have HPL := Aside0.mk hpl
 clear hd hb rp hcp hCp hpl
 go_upto_region 3 with fail
 go_wp2_with fail
 refine (num_calls 0 w3).mono ?_
 rintro e w3' ⟨rfl, rfl⟩
 go_upto_region 5 with fail
 go_wp2_with fail
 refine (num_calls 0 w3).mono ?_
 rintro e w3' ⟨rfl, rfl⟩
 go_upto_region 7 with fail
 have a2 := HS.out.q2
 have a3 := HS.out.q3
 have a4 := HS.out.q4
 have a5 := HS.out.q5
 have a6 := HS.out.q6
 have a7 := HS.out.q7
 have a8 := HS.out.q8
 go_upto_region 8 with fail
 clear a2 a3 a4 a5 a6 a7 a8
 have HNL := Aside0.mk (heap_alloc_new w3 (.cells #[.int .i64 1, .int .i64 t.f2.length, .int .i64 t.f3.length, .int .i64 t.f4.length, .int .i64 t.f5.length, .int .i64 t.f6.length, .int .i64 t.f7.length, .int .i64 t.f8.length, .int .i64 1] 3))
 have HBa := Aside0.mk (below_a w3 (.cells #[.int .i64 1, .int .i64 t.f2.length, .int .i64 t.f3.length, .int .i64 t.f4.length, .int .i64 t.f5.length, .int .i64 t.f6.length, .int .i64 t.f7.length, .int .i64 t.f8.length, .int .i64 1] 3))
 replace HW := Aside0.mk (HW.out.trans (HBa.out.mono HW.out.size))
 replace HX := Aside0.mk (Kd.C_below HX.out HBa.out)
 replace HPC := Aside0.mk (Kd.C_below HPC.out HBa.out)
 clear HS HBa
 generalize w3.heap.size = NB at *
 generalize w3.alloc (.cells #[.int .i64 1, .int .i64 t.f2.length, .int .i64 t.f3.length, .int .i64 t.f4.length, .int .i64 t.f5.length, .int .i64 t.f6.length, .int .i64 t.f7.length, .int .i64 t.f8.length, .int .i64 1] 3) = w4 at *
 have HNC := Aside0.mk (show ∀ j, j < 9 → w4.cell? ⟨NB, j, none⟩ = some (.int .i64 ((nsL t).getD j 0)) from fun j hj => by
  have hn := HNL.out
  simp only [World.cell?, hn]
  rcases (by omega : j = 0 ∨ j = 1 ∨ j = 2 ∨ j = 3 ∨ j = 4 ∨ j = 5 ∨ j = 6 ∨ j = 7 ∨ j = 8) with rfl | rfl | rfl | rfl | rfl | rfl | rfl | rfl | rfl <;> rfl)
 have HPA := Aside0.mk (show ∃ ap, Ap = some ap ∧ ∀ k, k < 9 → At51 w4 (ap.add (k * 4)) ((partsL t (imgL t).length).getD k z51) from by
  obtain ⟨t0, ap, _, e0, _⟩ := part_at HPC.out 0 (by rw [HPL.out]; omega)
  refine ⟨ap, e0, fun k hk => ?_⟩
  obtain ⟨t1, ap1, h1, e1, h2⟩ := part_at HPC.out k (by rw [HPL.out]; exact hk)
  rw [e0] at e1
  injection e1 with e1
  subst e1
  rw [h1]
  exact h2)
 obtain ⟨ap, hap, hpa⟩ := HPA.out
 subst hap
 have HPX := Aside0.mk hpa
 have HB0 := Aside0.mk (Below.refl w4.heap.size w4)
 clear HPA hpa HNL HPC HPL
 go_wp2_with fail
 go_loopg [8, 9] 9 (fun g s8 i wr => ∃ k : Nat, k ≤ 9 ∧ g = 9 - k ∧ s8 = .int .i64 (offP t k) ∧ i = .int .i64 (k : Int) ∧ Aside0 (Below w4.heap.size w4 wr))
 case atStart => exact ⟨0, by omega, rfl, rfl, rfl, HB0⟩
 case round =>
 clear HB0
 obtain ⟨k, hk, rfl, rfl, rfl, HB⟩ := hrel
 by_cases hlt : k < 9
 case pos =>
  have hd : decide ((k : Int) < 9) = true := decide_eq_true (by omega)
  have HLT := Aside0.mk hlt
  have HPO := Aside0.mk (part_ok HSM.out hlt)
  have HP := Aside0.mk ((HPX.out k hlt).below HB.out)
  have HN := Aside0.mk ((HB.out.cell (World.block_lt_of_cell? w4 _ (HNC.out k hlt))).trans (HNC.out k hlt))
  have HNX := Aside0.mk HPO.out.next
  obtain ⟨x0, hx0⟩ : ∃ x, x = (partsL t (imgL t).length).getD k z51 := ⟨_, rfl⟩
  rw [← hx0] at HPO HP HNX
  clear hx0
  obtain ⟨xa, xb, xl, xn⟩ := x0
  have e0 := HPO.out.kind
  have e1 := HPO.out.off
  have e3 := HPO.out.rows
  have hn0 := HPO.out.none
  have hl0 := HPO.out.len
  have hsm := HPO.out.small
  simp only [] at e0 e1 e3 hn0 hl0 hsm
  rw [← e3] at HN
  rw [← e1] at hsm
  rw [← e1] at HNX ⊢
  have HE1 := Aside0.mk e1
  clear e3 HPO e1
  subst e0
  have dl : decide (xl < 0) = false := decide_eq_false (by omega)
  have hw1 : wrap64 ((k : Int) + 1) = (k : Int) + 1 := by unfold wrap64; omega
  have hw2 : wrap64 (xb + xl) = xb + xl := by unfold wrap64; omega
  have hw3 : IntKind.i64.wrap ((k : Int) + 1) = (k : Int) + 1 := by rw [IntKind.wrap_i64]; omega
  have hw4 : IntKind.i64.wrap (xb + xl) = xb + xl := by rw [IntKind.wrap_i64]; omega
  have i9 : (k : Int) < 9 := by omega
  clear hsm
  go_upto_region 12 with fail
  refine start_ (n := 51) (S := fun w_ => Below wr.heap.size wr w_) (ds := []) #[false, false, false, false, false, false, false, false, false, false, false, false, false, false, false, false, false, false, false, false, false, false, false, false, false, false, false, false, false, false, false, false, false, false, false, false, false, false, false, false, false, false, false, false, false, false, false, false, false, false, false] (by kernel_rfl) rfl rfl (drew_below wr) (fun hHeld => ?_)
  have HH := Aside0.mk hHeld
  clear hHeld
  generalize wr.drew = wv at HH ⊢
  refine seq_start (n := 51) [] (by kernel_rfl) (by rfl) (fun HSQ => ?_)
  iterate 4
   refine seqp_ (v := ?_) (a' := ?_) HSQ.out rfl rfl rfl (fun _ _ _ h => h) (Or.inl ⟨by rfl, ?_⟩) ?_ ?_
   rotate_left
   ·intro w_
    go_simp
    with_reducible rfl
   rotate_left
   ·simp only [Act.put, List.setIfInBounds_toArray, List.set_cons_zero, List.set_cons_succ, i64_w, i32_w]
    rfl
  refine seqt_ (v := ?_) (a' := ?_) HSQ.out rfl rfl rfl (by kernel_rfl) (fun _ _ _ h => h) (Or.inl ⟨by rfl, ?_⟩) HH.out ?_ ?_
  rotate_left
  ·rintro w_ s
   have g := HP.out.below s; have g0 := g.g0; have g1 := g.g1; have g2 := g.g2; have g3 := g.g3; have gn := (s.cell (World.block_lt_of_cell? wr _ HN.out)).trans HN.out; clear g
   go_simp
   with_reducible rfl
  rotate_left
  ·simp only [Act.put, List.setIfInBounds_toArray, List.set_cons_zero, List.set_cons_succ, i64_w, i32_w]
   rfl
  iterate 8
   refine seqp_ (v := ?_) (a' := ?_) HSQ.out rfl rfl rfl (fun _ _ _ h => h) (Or.inl ⟨by rfl, ?_⟩) ?_ ?_
   rotate_left
   ·intro w_
    go_simp
    with_reducible rfl
   rotate_left
   ·simp only [Act.put, List.setIfInBounds_toArray, List.set_cons_zero, List.set_cons_succ, i64_w, i32_w]
    rfl
  refine seqt_ (v := ?_) (a' := ?_) HSQ.out rfl rfl rfl (by kernel_rfl) (fun _ _ _ h => h) (Or.inl ⟨by rfl, ?_⟩) HH.out ?_ ?_
  rotate_left
  ·rintro w_ s
   have g := HP.out.below s; have g0 := g.g0; have g1 := g.g1; have g2 := g.g2; have g3 := g.g3; have gn := (s.cell (World.block_lt_of_cell? wr _ HN.out)).trans HN.out; clear g
   go_simp
   with_reducible rfl
  rotate_left
  ·simp only [Act.put, List.setIfInBounds_toArray, List.set_cons_zero, List.set_cons_succ, i64_w, i32_w]
   rfl
  iterate 8
   refine seqp_ (v := ?_) (a' := ?_) HSQ.out rfl rfl rfl (fun _ _ _ h => h) (Or.inl ⟨by rfl, ?_⟩) ?_ ?_
   rotate_left
   ·intro w_
    go_simp
    with_reducible rfl
   rotate_left
   ·simp only [Act.put, List.setIfInBounds_toArray, List.set_cons_zero, List.set_cons_succ, i64_w, i32_w]
    rfl
  refine seqt_ (v := ?_) (a' := ?_) HSQ.out rfl rfl rfl (by kernel_rfl) (fun _ _ _ h => h) (Or.inl ⟨by rfl, ?_⟩) HH.out ?_ ?_
  rotate_left
  ·rintro w_ s
   have g := HP.out.below s; have g0 := g.g0; have g1 := g.g1; have g2 := g.g2; have g3 := g.g3; have gn := (s.cell (World.block_lt_of_cell? wr _ HN.out)).trans HN.out; clear g
   go_simp
   with_reducible rfl
  rotate_left
  ·simp only [Act.put, List.setIfInBounds_toArray, List.set_cons_zero, List.set_cons_succ, i64_w, i32_w]
   rfl
  iterate 7
   refine seqp_ (v := ?_) (a' := ?_) HSQ.out rfl rfl rfl (fun _ _ _ h => h) (Or.inl ⟨by rfl, ?_⟩) ?_ ?_
   rotate_left
   ·intro w_
    go_simp
    with_reducible rfl
   rotate_left
   ·simp only [Act.put, List.setIfInBounds_toArray, List.set_cons_zero, List.set_cons_succ, i64_w, i32_w]
    rfl
  iterate 2
   refine seqt_ (v := ?_) (a' := ?_) HSQ.out rfl rfl rfl (by kernel_rfl) (fun _ _ _ h => h) (Or.inl ⟨by rfl, ?_⟩) HH.out ?_ ?_
   rotate_left
   ·rintro w_ s
    have g := HP.out.below s; have g0 := g.g0; have g1 := g.g1; have g2 := g.g2; have g3 := g.g3; have gn := (s.cell (World.block_lt_of_cell? wr _ HN.out)).trans HN.out; clear g
    go_simp
    with_reducible rfl
   rotate_left
   ·simp only [Act.put, List.setIfInBounds_toArray, List.set_cons_zero, List.set_cons_succ, i64_w, i32_w]
    rfl
   iterate 3
    refine seqp_ (v := ?_) (a' := ?_) HSQ.out rfl rfl rfl (fun _ _ _ h => h) (Or.inl ⟨by rfl, ?_⟩) ?_ ?_
    rotate_left
    ·intro w_
     go_simp
     with_reducible rfl
    rotate_left
    ·simp only [Act.put, List.setIfInBounds_toArray, List.set_cons_zero, List.set_cons_succ, i64_w, i32_w]
     rfl
  iterate 2
   iterate 4
    refine seqp_ (v := ?_) (a' := ?_) HSQ.out rfl rfl rfl (fun _ _ _ h => h) (Or.inl ⟨by rfl, ?_⟩) ?_ ?_
    rotate_left
    ·intro w_
     go_simp
     with_reducible rfl
    rotate_left
    ·simp only [Act.put, List.setIfInBounds_toArray, List.set_cons_zero, List.set_cons_succ, i64_w, i32_w]
     rfl
   refine seqt_ (v := ?_) (a' := ?_) HSQ.out rfl rfl rfl (by kernel_rfl) (fun _ _ _ h => h) (Or.inl ⟨by rfl, ?_⟩) HH.out ?_ ?_
   rotate_left
   ·rintro w_ s
    have g := HP.out.below s; have g0 := g.g0; have g1 := g.g1; have g2 := g.g2; have g3 := g.g3; have gn := (s.cell (World.block_lt_of_cell? wr _ HN.out)).trans HN.out; clear g
    go_simp
    with_reducible rfl
   rotate_left
   ·simp only [Act.put, List.setIfInBounds_toArray, List.set_cons_zero, List.set_cons_succ, i64_w, i32_w]
    rfl
  iterate 3
   refine seqp_ (v := ?_) (a' := ?_) HSQ.out rfl rfl rfl (fun _ _ _ h => h) (Or.inl ⟨by rfl, ?_⟩) ?_ ?_
   rotate_left
   ·intro w_
    go_simp
    with_reducible rfl
   rotate_left
   ·simp only [Act.put, List.setIfInBounds_toArray, List.set_cons_zero, List.set_cons_succ, i64_w, i32_w]
    rfl
  refine seqd_ HSQ.out ?_
  clear HSQ
  have HP2 := Aside0.mk (HP.out.below HH.out)
  have HB2 := Aside0.mk (HB.out.trans (HH.out.mono HB.out.size))
  have g2 := HP2.out.g2
  go_wp2_with fail
  go_roundg (9 - (k + 1))
  case measure => have := HLT.out; omega
  case rel => exact ⟨k + 1, HLT.out, rfl, by rw [HNX.out], by go_num, HB2⟩
 have hd : decide ((k : Int) < 9) = false := decide_eq_false (by omega)
 obtain rfl : k = 9 := by omega
 have ho : offP t 9 = ((imgL t).length : Int) := rfl
 have HP8 := Aside0.mk ((HPX.out 8 (by omega)).below HB.out)
 have HP0 := Aside0.mk ((HPX.out 0 (by omega)).below HB.out)
 have h8 : (partsL t (imgL t).length).getD 8 z51 = ⟨9, ((imgL t).length : Int) - 2, 2, 1⟩ := by unfold partsL partsN; simp [List.range_succ]
 have h0 : (partsL t (imgL t).length).getD 0 z51 = ⟨1, 0, 28, 1⟩ := by unfold partsL partsN; simp [List.range_succ]
 rw [h8] at HP8
 rw [h0] at HP0
 rw [ho]
 have g8 : wr.cell? ⟨ap.block, ap.off + 32 + 2, none⟩ = some (.int .i64 2) := HP8.out.g2
 have g0 : wr.cell? ⟨ap.block, ap.off + 2, none⟩ = some (.int .i64 28) := by have := HP0.out.g2; rwa [Nat.zero_mul, add0] at this
 have HX9 := Aside0.mk (Kd.C_below HX.out HB.out)
 replace HW := Aside0.mk (HW.out.trans (HB.out.mono HW.out.size))
 have HSP := Aside0.mk (imgL_split t)
 have HBY := Aside0.mk (imgL_bytes t)
 have HLE := Aside0.mk (show (imgL t).length ≤ 60000100 from by have := (imgL_len HSM.out); omega)
 have HGE := Aside0.mk (imgL_ge t)
 clear h8 h0 ho hlt hk HB HP8 HP0 HPX HNC HX HSM HDT
 generalize imgL t = b at *
 obtain ⟨n, hn⟩ : ∃ n, n = b.length - 2 := ⟨_, rfl⟩
 rw [← hn] at HSP
 have HN2 := Aside0.mk (show n + 2 = b.length from by have := HGE.out; omega)
 clear hn
 go_upto_region 17 with fail
 clear g8 g0
 have he1 : IntKind.i64.wrap ((b.length : Int) - 2) = (n : Int) := by rw [IntKind.wrap_i64]; have := HN2.out; have := HLE.out; omega
 have he2 : wrap64 ((b.length : Int) - 2) = (n : Int) := by unfold wrap64; have := HN2.out; have := HLE.out; omega
 have he3 : IntKind.i64.wrap ((b.length : Int) - 1) = ((n + 1 : Nat) : Int) := by rw [IntKind.wrap_i64]; have := HN2.out; have := HLE.out; omega
 have he4 : wrap64 ((b.length : Int) - 1) = ((n + 1 : Nat) : Int) := by unfold wrap64; have := HN2.out; have := HLE.out; omega
 obtain ⟨hs3, hr3, hf3⟩ := cut_t HX9.out HCX.out n (by have := HN2.out; omega)
 rw [HSP.out.1] at hs3 hr3 hf3
 have HR3 := Aside0.mk hr3
 have HF3 := Aside0.mk hf3
 have HBL := Aside0.mk (show ∀ x ∈ imgB t, 0 ≤ x ∧ x ≤ 255 from by rw [← HSP.out.1]; exact fun x hx => HBY.out x (List.mem_of_mem_take hx))
 have HLL := Aside0.mk (show (imgB t).length ≤ 1099511627776 from by rw [← HSP.out.1, List.length_take]; have := HLE.out; omega)
 have HD := Aside0.mk (show b.getD n 0 = crcL (imgB t) % 256 ∧ b.getD (n + 1) 0 = crcL (imgB t) / 256 from by
  have h := HSP.out.2
  rw [leN2 (crcL_bd _)] at h
  have e : b = b.take n ++ [crcL (imgB t) % 256, crcL (imgB t) / 256] := by rw [← h, List.take_append_drop]
  have hl : (b.take n).length = n := by rw [List.length_take]; have := HN2.out; omega
  rw [e]
  constructor
  ·rw [List.getD_eq_getElem?_getD, List.getElem?_append_right (by omega), hl, Nat.sub_self]; rfl
  ·rw [List.getD_eq_getElem?_getD, List.getElem?_append_right (by omega), hl, show n + 1 - n = 1 from by omega]; rfl)
 clear hr3 hf3 HSP HBY
 generalize imgB t = l3 at *
 go_wp2_with fail
 refine (crc_calls l3 (slice_one (heap_alloc_new wr _) rfl (HR3.out _ (below_a wr _)) HF3.out) HBL.out HLL.out).mono ?_
 rintro e w5 ⟨rfl, hb5⟩
 have HB5 := Aside0.mk ((below_a wr _).trans (hb5.mono (below_a wr _).size))
 have HC5 := Aside0.mk (Kd.C_below HX9.out HB5.out)
 obtain ⟨ad, hA, hcell⟩ := (Kd.reads_of_C (d := (0 : Int)) HC5.out).2.2 (by have := HN2.out; omega)
 subst hA
 have hc0 := hcell n (by have := HN2.out; omega)
 have hc1 := hcell (n + 1) (by have := HN2.out; omega)
 rw [HD.out.1] at hc0
 rw [HD.out.2] at hc1
 have HC0 := Aside0.mk hc0
 have HC1 := Aside0.mk hc1
 have hcb := crcL_bd l3
 have HH5 := Aside0.mk (HW.out.trans (HB5.out.mono HW.out.size))
 clear hc0 hc1 hcell HD HC5 HBL HLL HR3 HF3 hs3 HX9 HCX hb5 HB5
 generalize crcL l3 = c at *
 have hw0 : IntKind.u8.wrap c = c % 256 := by simp only [IntKind.wrap, IntKind.bits, IntKind.signed]; simp
 have hw1 : IntKind.u8.wrap (c / 256) = c / 256 := by simp only [IntKind.wrap, IntKind.bits, IntKind.signed]; simp; omega
 have hi0 : 0 ≤ (n : Int) ∧ (n : Int) < b.length := by have := HN2.out; omega
 have hi1 : 0 ≤ ((n + 1 : Nat) : Int) ∧ ((n + 1 : Nat) : Int) < b.length := by have := HN2.out; omega
 go_upto_region 18 with fail
 have g0 := HC0.out
 have g1 : w5.cell? ⟨ad.block, ad.off + (n + 1), none⟩ = some (.int .u8 (c / 256)) := HC1.out
 go_wp2_with fail
 refine (alive_calls w5).mono ?_
 rintro e w6 ⟨rfl, hb6⟩
 have HF := Aside0.mk (HH5.out.trans (hb6.mono HH5.out.size))
 go_wp2_with fail
 go_ret
 exact ⟨rfl, HF.out⟩
end Go.Proofs.Ytbgcemijihpakaa.XA
end
section
namespace Go.Proofs.Ytbgcemijihpakaa.Pure
open Go.RowKit Go.Proofs.Ytbgcemijihpakaa.XA Go.Proofs.YtbgcemijihpakaaW.PrintWords
theorem parts_row (W : World) (cs : Array Value) (t : S33) (hK : k33.K W t cs.toList) (ok : ok33 t) (hsz : sz33 t) :
  Calls Try.prog 6 #[.agg cs] W fun e W' => e = .returned (.bool true) ∧ Below W.heap.size W W' := by
 obtain ⟨V, rfl, hT⟩ := open33 hK hsz
 exact parts_walk V t W hT (ty33 ok)
end Go.Proofs.Ytbgcemijihpakaa.Pure
end
