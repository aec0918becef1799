/- image.body: all rows, and where each part begins. -/
import Derived.Test.YtbgcemijihpakaaG19
namespace Go.Proofs.Ytbgcemijihpakaa.XA
set_option linter.unusedVariables false
set_option linter.unusedSimpArgs false
open Go.RowKit Go.WideMaps Go.Maps Go.Proofs.YtbgcemijihpakaaW.PrintWords Go.Proofs.YtbgcemijihpakaaW.PrintLast Go.Proofs.YtbgcemijihpakaaW.PrintMore
/-- the rows of all parts, one part behind the other -/
def parts (t : S33) : List (List Int) := [t.f2.flatMap encTask, t.f3.flatMap encRing, t.f4.flatMap encRes, t.f5.flatMap encCtr, t.f6.flatMap encAlm, t.f7.flatMap encIsr, t.f8.flatMap encMsg]
/-- where each part begins, the first at n; and where the last ends -/
def marks (n : Nat) : List (List Int) → List Int
 | [] => [(n : Int)]
 | p :: l => (n : Int) :: marks (n + p.length) l
def encBody (t : S33) : List Int := (parts t).flatten
structure OkTab (t : S33) : Prop where
 tk : ∀ x ∈ t.f2, OkTask x
 rg : ∀ x ∈ t.f3, OkRing x
 rs : ∀ x ∈ t.f4, OkRes x
 ct : ∀ x ∈ t.f5, OkCtr x
 al : ∀ x ∈ t.f6, OkAlm x
 ir : ∀ x ∈ t.f7, OkIsr x
 mg : ∀ x ∈ t.f8, OkMsg x
 n : t.f2.length ≤ 1000 ∧ t.f3.length ≤ 1000 ∧ t.f4.length ≤ 1000 ∧ t.f5.length ≤ 1000 ∧ t.f6.length ≤ 1000 ∧ t.f7.length ≤ 1000 ∧ t.f8.length ≤ 1000
 h : Sm t.f0 ∧ Sm t.f1 ∧ Sm t.f9 ∧ Sm t.f10 ∧ Sm t.f11 ∧ Sm t.f12
theorem AtS.new {w : World} {base P : Nat} {u : Value} {ats : List Int} (h : AtS w base P u ats) (o : Obj) : AtS (w.alloc o) base P u ats := h.below (below_a w o)
theorem part_len {α : Type} (f : α → List Int) (xs : List α) (h : ∀ x ∈ xs, (f x).length ≤ 8200) (hn : xs.length ≤ 1000) : (xs.flatMap f).length ≤ 8200000 := by
 have h1 := flatF_len f 8200 xs h
 have h2 : 8200 * xs.length ≤ 8200 * 1000 := Nat.mul_le_mul_left _ hn
 omega
set_option maxRecDepth 1000000 in
set_option maxHeartbeats 4000000 in
theorem body_calls (V : TV) (t : S33) (B base : Nat) (v : Value) (bs : List Int) (w : World) (hW : WS w base B v bs) (w0 : World) (ht : Tb w0 V t) (hb0 : Below w0.heap.size w0 w) (hbb : w0.heap.size ≤ base) (hok : OkTab t) (hlim : bs.length ≤ 1000000) :
  Calls Try.prog 20 #[.pointer (some ⟨B, 0, none⟩), .agg (arr V t)] w fun e w' => ∃ u v', e = .returned u ∧ (Kd.int .i64).R 3 w' w.heap.size (fun _ => True) u (marks bs.length (parts t)) ∧ WS w' base B v' (bs ++ encBody t) ∧ Wr base w w' B v v' := by
 have HBS := Aside0.mk hW.base
 have HLIM := Aside0.mk hlim
 have HOK := Aside0.mk hok
 have HBB := Aside0.mk hbb
 have HT := Aside0.mk ht
 have HB0 := Aside0.mk hb0
 have B1 := below_a w (.cells #[.pointer (some ⟨B, 0, none⟩)] 57)
 have B2 := below_a (w.alloc (.cells #[.pointer (some ⟨B, 0, none⟩)] 57)) (.cells (arr V t) 33)
 have B3 := below_a ((w.alloc (.cells #[.pointer (some ⟨B, 0, none⟩)] 57)).alloc (.cells (arr V t) 33)) (.cells #[.slice none 0 0] 48)
 have hs1 : (w.alloc (.cells #[.pointer (some ⟨B, 0, none⟩)] 57)).heap.size = w.heap.size + 1 := by simp
 have hs2 : ((w.alloc (.cells #[.pointer (some ⟨B, 0, none⟩)] 57)).alloc (.cells (arr V t) 33)).heap.size = w.heap.size + 1 + 1 := by simp
 have HQ := Aside0.mk ((B3.block _ (by simp; omega)).trans ((B2.block _ (by simp)).trans (heap_alloc_new w (.cells #[.pointer (some ⟨B, 0, none⟩)] 57))))
 have HX := Aside0.mk ((B3.block _ (by simp)).trans (heap_alloc_new (w.alloc (.cells #[.pointer (some ⟨B, 0, none⟩)] 57)) (.cells (arr V t) 33)))
 have HAT := Aside0.mk (show AtS (((w.alloc (.cells #[.pointer (some ⟨B, 0, none⟩)] 57)).alloc (.cells (arr V t) 33)).alloc (.cells #[.slice none 0 0] 48)) w.heap.size (w.heap.size + 1 + 1) (.slice none 0 0) [] from ⟨by rw [← hs2]; exact heap_alloc_new _ _, by omega, Kd.R_nil _ _ _ _ _⟩)
 have HW := Aside0.mk (((hW.new (.cells #[.pointer (some ⟨B, 0, none⟩)] 57)).new (.cells (arr V t) 33)).new (.cells #[.slice none 0 0] 48))
 have HR := Aside0.mk (Wr.below (B := B) (v := v) (B1.trans ((B2.mono B1.size).trans (B3.mono (Nat.le_trans B1.size B2.size)))) hW.base)
 rw [hs1] at HX
 clear hW hlim hok hbb ht hb0 B1 B2 B3 hs1 hs2
 unfold arr at *
 have hmf : ∀ (fn : Fn) (first cap : Array Value) (w : World), (Instr.makeFunc fn first cap).run Try.prog w = .ok (.func fn first cap) w := fun _ _ _ _ => rfl
 go_enter Try.func20, Try.ntmps20
 go_upto_region 3 with fail
 generalize ((w.alloc (.cells #[.pointer (some ⟨B, 0, none⟩)] 57)).alloc (.cells #[.int .i64 t.f0, .int .i64 t.f1, .slice V.a2 t.f2.length V.k2, .slice V.a3 t.f3.length V.k3, .slice V.a4 t.f4.length V.k4, .slice V.a5 t.f5.length V.k5, .slice V.a6 t.f6.length V.k6, .slice V.a7 t.f7.length V.k7, .slice V.a8 t.f8.length V.k8, .int .i64 t.f9, .int .i64 t.f10, .int .i64 t.f11, .int .i64 t.f12] 33)).alloc (.cells #[.slice none 0 0] 48) = x0 at *
 obtain ⟨Q, hQ⟩ : ∃ Q, w.heap.size = Q := ⟨_, rfl⟩
 have HQQ := Aside0.mk hQ
 rw [hQ] at HX HQ HAT ⊢
 obtain ⟨P, hP⟩ : ∃ P, Q + 1 = P := ⟨_, rfl⟩
 have HPP := Aside0.mk hP
 rw [hP] at HX HAT ⊢
 obtain ⟨M, hM⟩ : ∃ M, P + 1 = M := ⟨_, rfl⟩
 have HMM := Aside0.mk hM
 rw [hM] at HAT ⊢
 clear hQ hP hM
 have HL := Aside0.mk (show bs.length ≤ 1000000 from HLIM.out)

 go_wp2_with fail
 refine (mark_calls B base Q M Q v (.slice none 0 0) bs [] x0 HW.out HAT.out HQ.out (by simp)).mono ?_
 rintro e y0 ⟨u0, rfl, A1, K1⟩
 replace HW := Aside0.mk (HW.out.mark HAT.out K1)
 replace HX := Aside0.mk (box_mark HAT.out K1 HX.out (by decide) (by decide))
 replace HQ := Aside0.mk (box_mark HAT.out K1 HQ.out (by decide) (by decide))
 replace HR := Aside0.mk (HR.out.mark HAT.out K1 HBS.out (by have := HQQ.out; omega))
 replace HAT := Aside0.mk A1
 clear A1 K1
 have hq0 := (cells_box (cs := [.pointer (some ⟨B, 0, none⟩)]) HQ.out) 0 _ rfl
 have hx2 := (cells_box (cs := [.int .i64 t.f0, .int .i64 t.f1, .slice V.a2 t.f2.length V.k2, .slice V.a3 t.f3.length V.k3, .slice V.a4 t.f4.length V.k4, .slice V.a5 t.f5.length V.k5, .slice V.a6 t.f6.length V.k6, .slice V.a7 t.f7.length V.k7, .slice V.a8 t.f8.length V.k8, .int .i64 t.f9, .int .i64 t.f10, .int .i64 t.f11, .int .i64 t.f12]) HX.out) 2 _ rfl
 rw [add_z] at hq0 hx2
 go_wp2_with fail
 clear hq0 hx2
 refine (task_rows w0 B base v bs V.a2 V.k2 t.f2 y0 HW.out HT.out.tk HT.out.tkl (HB0.out.trans (HR.out.kp.low.mono HBB.out)) HBB.out HOK.out.tk (by have := HOK.out.n; omega) (by have := HL.out; omega)).mono ?_
 rintro e x1 ⟨v1, rfl, W1, R1⟩
 replace HX := Aside0.mk (box_kept HW.out R1.kp HX.out (by decide) (by decide))
 replace HQ := Aside0.mk (box_kept HW.out R1.kp HQ.out (by decide) (by decide))
 replace HAT := Aside0.mk (HAT.out.wrote HW.out R1.kp)
 replace HR := Aside0.mk (HR.out.trans R1 HBS.out)
 obtain ⟨b1, hb⟩ : ∃ z, bs ++ t.f2.flatMap encTask = z := ⟨_, rfl⟩
 rw [hb] at W1
 replace HL := Aside0.mk (show b1.length ≤ 9200000 from by rw [← hb, List.length_append]; have := part_len encTask t.f2 (fun x hx => encTask_len (HOK.out.tk x hx)) (by have := HOK.out.n; omega); have := HL.out; omega)
 have HE1 := Aside0.mk hb
 replace HW := Aside0.mk W1
 clear W1 R1 hb
 go_wp2_with fail
 refine (mark_calls B base Q M Q v1 u0 b1 ([] ++ [(bs.length : Int)]) x1 HW.out HAT.out HQ.out (by simp)).mono ?_
 rintro e y1 ⟨u1, rfl, A1, K1⟩
 replace HW := Aside0.mk (HW.out.mark HAT.out K1)
 replace HX := Aside0.mk (box_mark HAT.out K1 HX.out (by decide) (by decide))
 replace HQ := Aside0.mk (box_mark HAT.out K1 HQ.out (by decide) (by decide))
 replace HR := Aside0.mk (HR.out.mark HAT.out K1 HBS.out (by have := HQQ.out; omega))
 replace HAT := Aside0.mk A1
 clear A1 K1
 have hq0 := (cells_box (cs := [.pointer (some ⟨B, 0, none⟩)]) HQ.out) 0 _ rfl
 have hx3 := (cells_box (cs := [.int .i64 t.f0, .int .i64 t.f1, .slice V.a2 t.f2.length V.k2, .slice V.a3 t.f3.length V.k3, .slice V.a4 t.f4.length V.k4, .slice V.a5 t.f5.length V.k5, .slice V.a6 t.f6.length V.k6, .slice V.a7 t.f7.length V.k7, .slice V.a8 t.f8.length V.k8, .int .i64 t.f9, .int .i64 t.f10, .int .i64 t.f11, .int .i64 t.f12]) HX.out) 3 _ rfl
 rw [add_z] at hq0 hx3
 go_wp2_with fail
 clear hq0 hx3
 refine (ring_rows w0 B base v1 b1 V.a3 V.k3 t.f3 y1 HW.out HT.out.rg HT.out.rgl (HB0.out.trans (HR.out.kp.low.mono HBB.out)) HBB.out HOK.out.rg (by have := HOK.out.n; omega) (by have := HL.out; omega)).mono ?_
 rintro e x2 ⟨v2, rfl, W1, R1⟩
 replace HX := Aside0.mk (box_kept HW.out R1.kp HX.out (by decide) (by decide))
 replace HQ := Aside0.mk (box_kept HW.out R1.kp HQ.out (by decide) (by decide))
 replace HAT := Aside0.mk (HAT.out.wrote HW.out R1.kp)
 replace HR := Aside0.mk (HR.out.trans R1 HBS.out)
 obtain ⟨b2, hb⟩ : ∃ z, b1 ++ t.f3.flatMap encRing = z := ⟨_, rfl⟩
 rw [hb] at W1
 replace HL := Aside0.mk (show b2.length ≤ 17400000 from by rw [← hb, List.length_append]; have := part_len encRing t.f3 (fun x hx => encRing_len (HOK.out.rg x hx)) (by have := HOK.out.n; omega); have := HL.out; omega)
 have HE2 := Aside0.mk hb
 replace HW := Aside0.mk W1
 clear W1 R1 hb
 go_wp2_with fail
 refine (mark_calls B base Q M Q v2 u1 b2 (([] ++ [(bs.length : Int)]) ++ [(b1.length : Int)]) x2 HW.out HAT.out HQ.out (by simp)).mono ?_
 rintro e y2 ⟨u2, rfl, A1, K1⟩
 replace HW := Aside0.mk (HW.out.mark HAT.out K1)
 replace HX := Aside0.mk (box_mark HAT.out K1 HX.out (by decide) (by decide))
 replace HQ := Aside0.mk (box_mark HAT.out K1 HQ.out (by decide) (by decide))
 replace HR := Aside0.mk (HR.out.mark HAT.out K1 HBS.out (by have := HQQ.out; omega))
 replace HAT := Aside0.mk A1
 clear A1 K1
 have hq0 := (cells_box (cs := [.pointer (some ⟨B, 0, none⟩)]) HQ.out) 0 _ rfl
 have hx4 := (cells_box (cs := [.int .i64 t.f0, .int .i64 t.f1, .slice V.a2 t.f2.length V.k2, .slice V.a3 t.f3.length V.k3, .slice V.a4 t.f4.length V.k4, .slice V.a5 t.f5.length V.k5, .slice V.a6 t.f6.length V.k6, .slice V.a7 t.f7.length V.k7, .slice V.a8 t.f8.length V.k8, .int .i64 t.f9, .int .i64 t.f10, .int .i64 t.f11, .int .i64 t.f12]) HX.out) 4 _ rfl
 rw [add_z] at hq0 hx4
 go_wp2_with fail
 clear hq0 hx4
 refine (res_rows w0 B base v2 b2 V.a4 V.k4 t.f4 y2 HW.out HT.out.rs HT.out.rsl (HB0.out.trans (HR.out.kp.low.mono HBB.out)) HBB.out HOK.out.rs (by have := HOK.out.n; omega) (by have := HL.out; omega)).mono ?_
 rintro e x3 ⟨v3, rfl, W1, R1⟩
 replace HX := Aside0.mk (box_kept HW.out R1.kp HX.out (by decide) (by decide))
 replace HQ := Aside0.mk (box_kept HW.out R1.kp HQ.out (by decide) (by decide))
 replace HAT := Aside0.mk (HAT.out.wrote HW.out R1.kp)
 replace HR := Aside0.mk (HR.out.trans R1 HBS.out)
 obtain ⟨b3, hb⟩ : ∃ z, b2 ++ t.f4.flatMap encRes = z := ⟨_, rfl⟩
 rw [hb] at W1
 replace HL := Aside0.mk (show b3.length ≤ 25600000 from by rw [← hb, List.length_append]; have := part_len encRes t.f4 (fun x hx => encRes_len (HOK.out.rs x hx)) (by have := HOK.out.n; omega); have := HL.out; omega)
 have HE3 := Aside0.mk hb
 replace HW := Aside0.mk W1
 clear W1 R1 hb
 go_wp2_with fail
 refine (mark_calls B base Q M Q v3 u2 b3 ((([] ++ [(bs.length : Int)]) ++ [(b1.length : Int)]) ++ [(b2.length : Int)]) x3 HW.out HAT.out HQ.out (by simp)).mono ?_
 rintro e y3 ⟨u3, rfl, A1, K1⟩
 replace HW := Aside0.mk (HW.out.mark HAT.out K1)
 replace HX := Aside0.mk (box_mark HAT.out K1 HX.out (by decide) (by decide))
 replace HQ := Aside0.mk (box_mark HAT.out K1 HQ.out (by decide) (by decide))
 replace HR := Aside0.mk (HR.out.mark HAT.out K1 HBS.out (by have := HQQ.out; omega))
 replace HAT := Aside0.mk A1
 clear A1 K1
 have hq0 := (cells_box (cs := [.pointer (some ⟨B, 0, none⟩)]) HQ.out) 0 _ rfl
 have hx5 := (cells_box (cs := [.int .i64 t.f0, .int .i64 t.f1, .slice V.a2 t.f2.length V.k2, .slice V.a3 t.f3.length V.k3, .slice V.a4 t.f4.length V.k4, .slice V.a5 t.f5.length V.k5, .slice V.a6 t.f6.length V.k6, .slice V.a7 t.f7.length V.k7, .slice V.a8 t.f8.length V.k8, .int .i64 t.f9, .int .i64 t.f10, .int .i64 t.f11, .int .i64 t.f12]) HX.out) 5 _ rfl
 rw [add_z] at hq0 hx5
 go_wp2_with fail
 clear hq0 hx5
 refine (ctr_rows w0 B base v3 b3 V.a5 V.k5 t.f5 y3 HW.out HT.out.ct HT.out.ctl (HB0.out.trans (HR.out.kp.low.mono HBB.out)) HBB.out HOK.out.ct (by have := HOK.out.n; omega) (by have := HL.out; omega)).mono ?_
 rintro e x4 ⟨v4, rfl, W1, R1⟩
 replace HX := Aside0.mk (box_kept HW.out R1.kp HX.out (by decide) (by decide))
 replace HQ := Aside0.mk (box_kept HW.out R1.kp HQ.out (by decide) (by decide))
 replace HAT := Aside0.mk (HAT.out.wrote HW.out R1.kp)
 replace HR := Aside0.mk (HR.out.trans R1 HBS.out)
 obtain ⟨b4, hb⟩ : ∃ z, b3 ++ t.f5.flatMap encCtr = z := ⟨_, rfl⟩
 rw [hb] at W1
 replace HL := Aside0.mk (show b4.length ≤ 33800000 from by rw [← hb, List.length_append]; have := part_len encCtr t.f5 (fun x hx => encCtr_len (HOK.out.ct x hx)) (by have := HOK.out.n; omega); have := HL.out; omega)
 have HE4 := Aside0.mk hb
 replace HW := Aside0.mk W1
 clear W1 R1 hb
 go_wp2_with fail
 refine (mark_calls B base Q M Q v4 u3 b4 (((([] ++ [(bs.length : Int)]) ++ [(b1.length : Int)]) ++ [(b2.length : Int)]) ++ [(b3.length : Int)]) x4 HW.out HAT.out HQ.out (by simp)).mono ?_
 rintro e y4 ⟨u4, rfl, A1, K1⟩
 replace HW := Aside0.mk (HW.out.mark HAT.out K1)
 replace HX := Aside0.mk (box_mark HAT.out K1 HX.out (by decide) (by decide))
 replace HQ := Aside0.mk (box_mark HAT.out K1 HQ.out (by decide) (by decide))
 replace HR := Aside0.mk (HR.out.mark HAT.out K1 HBS.out (by have := HQQ.out; omega))
 replace HAT := Aside0.mk A1
 clear A1 K1
 have hq0 := (cells_box (cs := [.pointer (some ⟨B, 0, none⟩)]) HQ.out) 0 _ rfl
 have hx6 := (cells_box (cs := [.int .i64 t.f0, .int .i64 t.f1, .slice V.a2 t.f2.length V.k2, .slice V.a3 t.f3.length V.k3, .slice V.a4 t.f4.length V.k4, .slice V.a5 t.f5.length V.k5, .slice V.a6 t.f6.length V.k6, .slice V.a7 t.f7.length V.k7, .slice V.a8 t.f8.length V.k8, .int .i64 t.f9, .int .i64 t.f10, .int .i64 t.f11, .int .i64 t.f12]) HX.out) 6 _ rfl
 rw [add_z] at hq0 hx6
 go_wp2_with fail
 clear hq0 hx6
 refine (alm_rows w0 B base v4 b4 V.a6 V.k6 t.f6 y4 HW.out HT.out.al HT.out.all (HB0.out.trans (HR.out.kp.low.mono HBB.out)) HBB.out HOK.out.al (by have := HOK.out.n; omega) (by have := HL.out; omega)).mono ?_
 rintro e x5 ⟨v5, rfl, W1, R1⟩
 replace HX := Aside0.mk (box_kept HW.out R1.kp HX.out (by decide) (by decide))
 replace HQ := Aside0.mk (box_kept HW.out R1.kp HQ.out (by decide) (by decide))
 replace HAT := Aside0.mk (HAT.out.wrote HW.out R1.kp)
 replace HR := Aside0.mk (HR.out.trans R1 HBS.out)
 obtain ⟨b5, hb⟩ : ∃ z, b4 ++ t.f6.flatMap encAlm = z := ⟨_, rfl⟩
 rw [hb] at W1
 replace HL := Aside0.mk (show b5.length ≤ 42000000 from by rw [← hb, List.length_append]; have := part_len encAlm t.f6 (fun x hx => encAlm_len (HOK.out.al x hx)) (by have := HOK.out.n; omega); have := HL.out; omega)
 have HE5 := Aside0.mk hb
 replace HW := Aside0.mk W1
 clear W1 R1 hb
 go_wp2_with fail
 refine (mark_calls B base Q M Q v5 u4 b5 ((((([] ++ [(bs.length : Int)]) ++ [(b1.length : Int)]) ++ [(b2.length : Int)]) ++ [(b3.length : Int)]) ++ [(b4.length : Int)]) x5 HW.out HAT.out HQ.out (by simp)).mono ?_
 rintro e y5 ⟨u5, rfl, A1, K1⟩
 replace HW := Aside0.mk (HW.out.mark HAT.out K1)
 replace HX := Aside0.mk (box_mark HAT.out K1 HX.out (by decide) (by decide))
 replace HQ := Aside0.mk (box_mark HAT.out K1 HQ.out (by decide) (by decide))
 replace HR := Aside0.mk (HR.out.mark HAT.out K1 HBS.out (by have := HQQ.out; omega))
 replace HAT := Aside0.mk A1
 clear A1 K1
 have hq0 := (cells_box (cs := [.pointer (some ⟨B, 0, none⟩)]) HQ.out) 0 _ rfl
 have hx7 := (cells_box (cs := [.int .i64 t.f0, .int .i64 t.f1, .slice V.a2 t.f2.length V.k2, .slice V.a3 t.f3.length V.k3, .slice V.a4 t.f4.length V.k4, .slice V.a5 t.f5.length V.k5, .slice V.a6 t.f6.length V.k6, .slice V.a7 t.f7.length V.k7, .slice V.a8 t.f8.length V.k8, .int .i64 t.f9, .int .i64 t.f10, .int .i64 t.f11, .int .i64 t.f12]) HX.out) 7 _ rfl
 rw [add_z] at hq0 hx7
 go_wp2_with fail
 clear hq0 hx7
 refine (isr_rows w0 B base v5 b5 V.a7 V.k7 t.f7 y5 HW.out HT.out.ir HT.out.irl (HB0.out.trans (HR.out.kp.low.mono HBB.out)) HBB.out HOK.out.ir (by have := HOK.out.n; omega) (by have := HL.out; omega)).mono ?_
 rintro e x6 ⟨v6, rfl, W1, R1⟩
 replace HX := Aside0.mk (box_kept HW.out R1.kp HX.out (by decide) (by decide))
 replace HQ := Aside0.mk (box_kept HW.out R1.kp HQ.out (by decide) (by decide))
 replace HAT := Aside0.mk (HAT.out.wrote HW.out R1.kp)
 replace HR := Aside0.mk (HR.out.trans R1 HBS.out)
 obtain ⟨b6, hb⟩ : ∃ z, b5 ++ t.f7.flatMap encIsr = z := ⟨_, rfl⟩
 rw [hb] at W1
 replace HL := Aside0.mk (show b6.length ≤ 50200000 from by rw [← hb, List.length_append]; have := part_len encIsr t.f7 (fun x hx => encIsr_len (HOK.out.ir x hx)) (by have := HOK.out.n; omega); have := HL.out; omega)
 have HE6 := Aside0.mk hb
 replace HW := Aside0.mk W1
 clear W1 R1 hb
 go_wp2_with fail
 refine (mark_calls B base Q M Q v6 u5 b6 (((((([] ++ [(bs.length : Int)]) ++ [(b1.length : Int)]) ++ [(b2.length : Int)]) ++ [(b3.length : Int)]) ++ [(b4.length : Int)]) ++ [(b5.length : Int)]) x6 HW.out HAT.out HQ.out (by simp)).mono ?_
 rintro e y6 ⟨u6, rfl, A1, K1⟩
 replace HW := Aside0.mk (HW.out.mark HAT.out K1)
 replace HX := Aside0.mk (box_mark HAT.out K1 HX.out (by decide) (by decide))
 replace HQ := Aside0.mk (box_mark HAT.out K1 HQ.out (by decide) (by decide))
 replace HR := Aside0.mk (HR.out.mark HAT.out K1 HBS.out (by have := HQQ.out; omega))
 replace HAT := Aside0.mk A1
 clear A1 K1
 have hq0 := (cells_box (cs := [.pointer (some ⟨B, 0, none⟩)]) HQ.out) 0 _ rfl
 have hx8 := (cells_box (cs := [.int .i64 t.f0, .int .i64 t.f1, .slice V.a2 t.f2.length V.k2, .slice V.a3 t.f3.length V.k3, .slice V.a4 t.f4.length V.k4, .slice V.a5 t.f5.length V.k5, .slice V.a6 t.f6.length V.k6, .slice V.a7 t.f7.length V.k7, .slice V.a8 t.f8.length V.k8, .int .i64 t.f9, .int .i64 t.f10, .int .i64 t.f11, .int .i64 t.f12]) HX.out) 8 _ rfl
 rw [add_z] at hq0 hx8
 go_wp2_with fail
 clear hq0 hx8
 refine (msg_rows w0 B base v6 b6 V.a8 V.k8 t.f8 y6 HW.out HT.out.mg HT.out.mgl (HB0.out.trans (HR.out.kp.low.mono HBB.out)) HBB.out HOK.out.mg (by have := HOK.out.n; omega) (by have := HL.out; omega)).mono ?_
 rintro e x7 ⟨v7, rfl, W1, R1⟩
 replace HX := Aside0.mk (box_kept HW.out R1.kp HX.out (by decide) (by decide))
 replace HQ := Aside0.mk (box_kept HW.out R1.kp HQ.out (by decide) (by decide))
 replace HAT := Aside0.mk (HAT.out.wrote HW.out R1.kp)
 replace HR := Aside0.mk (HR.out.trans R1 HBS.out)
 obtain ⟨b7, hb⟩ : ∃ z, b6 ++ t.f8.flatMap encMsg = z := ⟨_, rfl⟩
 rw [hb] at W1
 replace HL := Aside0.mk (show b7.length ≤ 58400000 from by rw [← hb, List.length_append]; have := part_len encMsg t.f8 (fun x hx => encMsg_len (HOK.out.mg x hx)) (by have := HOK.out.n; omega); have := HL.out; omega)
 have HE7 := Aside0.mk hb
 replace HW := Aside0.mk W1
 clear W1 R1 hb
 go_wp2_with fail
 refine (mark_calls B base Q M Q v7 u6 b7 ((((((([] ++ [(bs.length : Int)]) ++ [(b1.length : Int)]) ++ [(b2.length : Int)]) ++ [(b3.length : Int)]) ++ [(b4.length : Int)]) ++ [(b5.length : Int)]) ++ [(b6.length : Int)]) x7 HW.out HAT.out HQ.out (by simp)).mono ?_
 rintro e y7 ⟨u7, rfl, A1, K1⟩
 replace HW := Aside0.mk (HW.out.mark HAT.out K1)
 replace HX := Aside0.mk (box_mark HAT.out K1 HX.out (by decide) (by decide))
 replace HQ := Aside0.mk (box_mark HAT.out K1 HQ.out (by decide) (by decide))
 replace HR := Aside0.mk (HR.out.mark HAT.out K1 HBS.out (by have := HQQ.out; omega))
 replace HAT := Aside0.mk A1
 clear A1 K1
 have HF := Aside0.mk (show bs ++ encBody t = b7 from by rw [← HE7.out, ← HE6.out, ← HE5.out, ← HE4.out, ← HE3.out, ← HE2.out, ← HE1.out]; simp [encBody, parts, List.append_assoc])
 have hml : ∀ (x y : List Int), ((x ++ y).length : Int) = ((x.length + y.length : Nat) : Int) := fun x y => by simp
 have HFM := Aside0.mk (show ((((((([] ++ [(bs.length : Int)]) ++ [(b1.length : Int)]) ++ [(b2.length : Int)]) ++ [(b3.length : Int)]) ++ [(b4.length : Int)]) ++ [(b5.length : Int)]) ++ [(b6.length : Int)]) ++ [(b7.length : Int)] = marks bs.length (parts t) from by
  rw [← HE7.out, ← HE6.out, ← HE5.out, ← HE4.out, ← HE3.out, ← HE2.out, ← HE1.out]
  simp only [parts, marks, List.length_append, List.nil_append, List.cons_append, List.append_assoc, Nat.add_assoc])
 clear hml
 have HA := Aside0.mk HAT.out
 have hm0 := HAT.out.box
 obtain ⟨Az, nz, cz, hz⟩ : ∃ A n c, u7 = .slice A n c := (by obtain ⟨A, c, h⟩ := Kd.R_slice HAT.out.row; exact ⟨A, _, c, h⟩)
 subst hz
 have hcm : y7.cell? ⟨M, 0, none⟩ = some (.slice Az nz cz) := by simp only [World.cell?, hm0]; rfl
 clear hm0
 go_wp2_with fail
 go_ret
 exact ⟨_, v7, rfl, by rw [HQQ.out, ← HFM.out]; exact HA.out.row, by rw [HF.out]; exact HW.out, HR.out⟩
end Go.Proofs.Ytbgcemijihpakaa.XA
