/- the law ImageSame: the walk. -/
import Derived.Test.YtbgcemijihpakaaG48
import Derived.Test.YtbgcemijihpakaaG46
section
namespace Go.Proofs.Ytbgcemijihpakaa.XA
set_option linter.unusedVariables false
set_option linter.unusedSimpArgs false
open Go.RowKit Go.WideMaps Go.Maps Go.Proofs.YtbgcemijihpakaaW.PrintWords Go.Proofs.YtbgcemijihpakaaW.PrintLast Go.Proofs.YtbgcemijihpakaaW.PrintMore
set_option maxRecDepth 1000000 in
set_option maxHeartbeats 4000000 in
theorem same_walk (V U : TV) (t u : S33) (w : World) (ht : Tb w V t) (hu : Tb w U u) (hw : Wt t) :
  Calls Try.prog 7 #[.agg (arr V t), .agg (arr U u)] w fun e w' => e = .returned (.bool true) ∧ Below w.heap.size w w' := by
 have b1 := below_a w (.cells (arr V t) 33)
 have b2 := below_a (w.alloc (.cells (arr V t) 33)) (.cells (arr U u) 33)
 have hsz : (w.alloc (.cells (arr V t) 33)).heap.size = w.heap.size + 1 := by simp
 have HA := Aside0.mk ((At.made ht).below b2)
 have hb := At.made (hu.below b1)
 rw [hsz] at hb
 have HB := Aside0.mk hb
 have HW := Aside0.mk (b1.trans (b2.mono b1.size))
 have HWT := Aside0.mk hw
 have HCM := Aside0.mk (sameB_comm u t)
 clear ht hu b1 b2 hsz hb hw
 unfold arr at *
 go_enter Try.func7, Try.ntmps7
 go_upto_region 1 with fail
 generalize (w.alloc (.cells #[.int .i64 t.f0, .int .i64 t.f1, .slice V.a2 t.f2.length V.k2, .slice V.a3 t.f3.length V.k3, .slice V.a4 t.f4.length V.k4, .slice V.a5 t.f5.length V.k5, .slice V.a6 t.f6.length V.k6, .slice V.a7 t.f7.length V.k7, .slice V.a8 t.f8.length V.k8, .int .i64 t.f9, .int .i64 t.f10, .int .i64 t.f11, .int .i64 t.f12] 33)).alloc (.cells #[.int .i64 u.f0, .int .i64 u.f1, .slice U.a2 u.f2.length U.k2, .slice U.a3 u.f3.length U.k3, .slice U.a4 u.f4.length U.k4, .slice U.a5 u.f5.length U.k5, .slice U.a6 u.f6.length U.k6, .slice U.a7 u.f7.length U.k7, .slice U.a8 u.f8.length U.k8, .int .i64 u.f9, .int .i64 u.f10, .int .i64 u.f11, .int .i64 u.f12] 33) = w2 at *
 generalize w.heap.size + 1 = QQ at HB ⊢
 obtain ⟨PP, hP⟩ : ∃ P, P = w.heap.size := ⟨_, rfl⟩
 rw [← hP] at HA ⊢
 clear hP
 obtain ⟨bb, hbb⟩ : ∃ b, b = sameB t u := ⟨_, rfl⟩
 have HBB := Aside0.mk hbb
 clear hbb
 refine start_ (n := 26) (S := fun w_ => Below w2.heap.size w2 w_) (ds := []) #[false, false, false, false, false, false, false, false, false, false, false, false, false, false, false, false, false, false, false, false, false, false, false, false, false, false] (by kernel_rfl) rfl rfl (drew_below w2) (fun hHeld => ?_)
 have HH := Aside0.mk hHeld
 clear hHeld
 generalize w2.drew = wv at HH ⊢
 refine take_ (i := 0) (N := some 5) (v := ?_) (a' := ?_) #[true, false, false, false, false, false, false, false, false, false, false, false, false, false, false, false, false, false, false, false, false, false, false, false, false, false] rfl rfl (by kernel_rfl) (fun _ _ _ h => h) (Or.inl ⟨by rfl, ?_⟩) HH.out ?_ ?_
 rotate_left
 ·rintro w_ s
  refine run33 (HA.out.below s) (.tmp 2) ?_ ?_ <;> rfl
 rotate_left
 ·simp only [Act.put, List.setIfInBounds_toArray, List.set_cons_zero, List.set_cons_succ, i64_w, i32_w]
  rfl
 refine take_ (i := 1) (N := some 6) (v := ?_) (a' := ?_) #[true, true, false, false, false, false, false, false, false, false, false, false, false, false, false, false, false, false, false, false, false, false, false, false, false, false] rfl rfl (by kernel_rfl) (fun _ _ _ h => h) (Or.inl ⟨by rfl, ?_⟩) HH.out ?_ ?_
 rotate_left
 ·rintro w_ s
  refine run33 (HB.out.below s) (.tmp 3) ?_ ?_ <;> rfl
 rotate_left
 ·simp only [Act.put, List.setIfInBounds_toArray, List.set_cons_zero, List.set_cons_succ, i64_w, i32_w]
  rfl
 refine take_ (i := 3) (N := some 8) (v := ?_) (a' := ?_) #[true, true, false, true, false, false, false, false, false, false, false, false, false, false, false, false, false, false, false, false, false, false, false, false, false, false] rfl rfl (by kernel_rfl) (fun _ _ _ h => h) (Or.inl ⟨by rfl, ?_⟩) HH.out ?_ ?_
 rotate_left
 ·rintro w_ s
  refine run33 (HA.out.below s) (.tmp 2) ?_ ?_ <;> rfl
 rotate_left
 ·simp only [Act.put, List.setIfInBounds_toArray, List.set_cons_zero, List.set_cons_succ, i64_w, i32_w]
  rfl
 refine take_ (i := 4) (N := some 9) (v := ?_) (a' := ?_) #[true, true, false, true, true, false, false, false, false, false, false, false, false, false, false, false, false, false, false, false, false, false, false, false, false, false] rfl rfl (by kernel_rfl) (fun _ _ _ h => h) (Or.inl ⟨by rfl, ?_⟩) HH.out ?_ ?_
 rotate_left
 ·rintro w_ s
  refine run33 (HB.out.below s) (.tmp 3) ?_ ?_ <;> rfl
 rotate_left
 ·simp only [Act.put, List.setIfInBounds_toArray, List.set_cons_zero, List.set_cons_succ, i64_w, i32_w]
  rfl
 refine one_ (i := 2) (N := some 7) #[true, true, true, true, true, false, false, false, false, false, false, false, false, false, false, false, false, false, false, false, false, false, false, false, false, false] rfl rfl (by kernel_rfl) (by decide) (fun K hK => ?_)
 refine goes_ Try.func13 (by kernel_rfl) rfl #[.agg #[.int .i64 t.f0, .int .i64 t.f1, .slice V.a2 t.f2.length V.k2, .slice V.a3 t.f3.length V.k3, .slice V.a4 t.f4.length V.k4, .slice V.a5 t.f5.length V.k5, .slice V.a6 t.f6.length V.k6, .slice V.a7 t.f7.length V.k7, .slice V.a8 t.f8.length V.k8, .int .i64 t.f9, .int .i64 t.f10, .int .i64 t.f11, .int .i64 t.f12], .agg #[.int .i64 u.f0, .int .i64 u.f1, .slice U.a2 u.f2.length U.k2, .slice U.a3 u.f3.length U.k3, .slice U.a4 u.f4.length U.k4, .slice U.a5 u.f5.length U.k5, .slice U.a6 u.f6.length U.k6, .slice U.a7 u.f7.length U.k7, .slice U.a8 u.f8.length U.k8, .int .i64 u.f9, .int .i64 u.f10, .int .i64 u.f11, .int .i64 u.f12]] (by rfl) rfl rfl (by first | rfl | (simp only [List.map_toArray, List.map_cons, List.map_nil]; rfl) | simp) ?_
 refine (same13_calls V U t u wv (HA.out.below HH.out).tb (HB.out.below HH.out).tb).mono ?_
 rintro e wb ⟨rfl, B2⟩
 rw [← HBB.out]
 refine ⟨_, rfl, ?_⟩
 have HH2 := Aside0.mk (HH.out.trans (B2.mono HH.out.size))
 clear HH B2
 have HH := HH2
 clear HH2
 refine hK.out _ _ HH.out (fun _ => ?_)
 clear hK K
 refine norm_ (a' := ?_) ?_ ?_
 rotate_left
 ·show Act.put _ (some 7) _ = _
  simp only [Act.put, List.setIfInBounds_toArray, List.set_cons_zero, List.set_cons_succ, i64_w, i32_w]
  rfl
 refine one_ (i := 5) (N := some 10) #[true, true, true, true, true, true, false, false, false, false, false, false, false, false, false, false, false, false, false, false, false, false, false, false, false, false] rfl rfl (by kernel_rfl) (by decide) (fun K hK => ?_)
 refine goes_ Try.func12 (by kernel_rfl) rfl #[.agg #[.int .i64 t.f0, .int .i64 t.f1, .slice V.a2 t.f2.length V.k2, .slice V.a3 t.f3.length V.k3, .slice V.a4 t.f4.length V.k4, .slice V.a5 t.f5.length V.k5, .slice V.a6 t.f6.length V.k6, .slice V.a7 t.f7.length V.k7, .slice V.a8 t.f8.length V.k8, .int .i64 t.f9, .int .i64 t.f10, .int .i64 t.f11, .int .i64 t.f12], .agg #[.int .i64 u.f0, .int .i64 u.f1, .slice U.a2 u.f2.length U.k2, .slice U.a3 u.f3.length U.k3, .slice U.a4 u.f4.length U.k4, .slice U.a5 u.f5.length U.k5, .slice U.a6 u.f6.length U.k6, .slice U.a7 u.f7.length U.k7, .slice U.a8 u.f8.length U.k8, .int .i64 u.f9, .int .i64 u.f10, .int .i64 u.f11, .int .i64 u.f12]] (by rfl) rfl rfl (by first | rfl | (simp only [List.map_toArray, List.map_cons, List.map_nil]; rfl) | simp) ?_
 refine (same12_calls V U t u wb (HA.out.below HH.out).tb (HB.out.below HH.out).tb).mono ?_
 rintro e wc ⟨rfl, B2⟩
 rw [← HBB.out]
 refine ⟨_, rfl, ?_⟩
 have HH2 := Aside0.mk (HH.out.trans (B2.mono HH.out.size))
 clear HH B2
 have HH := HH2
 clear HH2
 refine hK.out _ _ HH.out (fun _ => ?_)
 clear hK K
 refine norm_ (a' := ?_) ?_ ?_
 rotate_left
 ·show Act.put _ (some 10) _ = _
  simp only [Act.put, List.setIfInBounds_toArray, List.set_cons_zero, List.set_cons_succ, i64_w, i32_w]
  rfl
 refine pure_ (i := 6) (N := some 11) (v := ?_) (a' := ?_) #[true, true, true, true, true, true, true, false, false, false, false, false, false, false, false, false, false, false, false, false, false, false, false, false, false, false] rfl rfl (by kernel_rfl) (fun _ _ _ h => h) (Or.inl ⟨by rfl, ?_⟩) ?_ ?_
 rotate_left
 ·intro w_
  go_simp
  with_reducible rfl
 rotate_left
 ·simp only [Act.put, List.setIfInBounds_toArray, List.set_cons_zero, List.set_cons_succ, i64_w, i32_w]
  rfl
 refine pure_ (i := 7) (N := some 12) (v := ?_) (a' := ?_) #[true, true, true, true, true, true, true, true, false, false, false, false, false, false, false, false, false, false, false, false, false, false, false, false, false, false] rfl rfl (by kernel_rfl) (fun _ _ _ h => h) (Or.inl ⟨by rfl, ?_⟩) ?_ ?_
 rotate_left
 ·intro w_
  go_simp
  with_reducible rfl
 rotate_left
 ·simp only [Act.put, List.setIfInBounds_toArray, List.set_cons_zero, List.set_cons_succ, i64_w, i32_w]
  rfl
 refine take_ (i := 8) (N := some 13) (v := ?_) (a' := ?_) #[true, true, true, true, true, true, true, true, true, false, false, false, false, false, false, false, false, false, false, false, false, false, false, false, false, false] rfl rfl (by kernel_rfl) (fun _ _ _ h => h) (Or.inl ⟨by rfl, ?_⟩) HH.out ?_ ?_
 rotate_left
 ·rintro w_ s
  refine run33 (HB.out.below s) (.tmp 3) ?_ ?_ <;> rfl
 rotate_left
 ·simp only [Act.put, List.setIfInBounds_toArray, List.set_cons_zero, List.set_cons_succ, i64_w, i32_w]
  rfl
 refine take_ (i := 9) (N := some 14) (v := ?_) (a' := ?_) #[true, true, true, true, true, true, true, true, true, true, false, false, false, false, false, false, false, false, false, false, false, false, false, false, false, false] rfl rfl (by kernel_rfl) (fun _ _ _ h => h) (Or.inl ⟨by rfl, ?_⟩) HH.out ?_ ?_
 rotate_left
 ·rintro w_ s
  refine run33 (HA.out.below s) (.tmp 2) ?_ ?_ <;> rfl
 rotate_left
 ·simp only [Act.put, List.setIfInBounds_toArray, List.set_cons_zero, List.set_cons_succ, i64_w, i32_w]
  rfl
 refine take_ (i := 11) (N := some 16) (v := ?_) (a' := ?_) #[true, true, true, true, true, true, true, true, true, true, false, true, false, false, false, false, false, false, false, false, false, false, false, false, false, false] rfl rfl (by kernel_rfl) (fun _ _ _ h => h) (Or.inl ⟨by rfl, ?_⟩) HH.out ?_ ?_
 rotate_left
 ·rintro w_ s
  refine run33 (HA.out.below s) (.tmp 2) ?_ ?_ <;> rfl
 rotate_left
 ·simp only [Act.put, List.setIfInBounds_toArray, List.set_cons_zero, List.set_cons_succ, i64_w, i32_w]
  rfl
 refine take_ (i := 12) (N := some 17) (v := ?_) (a' := ?_) #[true, true, true, true, true, true, true, true, true, true, false, true, true, false, false, false, false, false, false, false, false, false, false, false, false, false] rfl rfl (by kernel_rfl) (fun _ _ _ h => h) (Or.inl ⟨by rfl, ?_⟩) HH.out ?_ ?_
 rotate_left
 ·rintro w_ s
  refine run33 (HB.out.below s) (.tmp 3) ?_ ?_ <;> rfl
 rotate_left
 ·simp only [Act.put, List.setIfInBounds_toArray, List.set_cons_zero, List.set_cons_succ, i64_w, i32_w]
  rfl
 refine one_ (i := 10) (N := some 15) #[true, true, true, true, true, true, true, true, true, true, true, true, true, false, false, false, false, false, false, false, false, false, false, false, false, false] rfl rfl (by kernel_rfl) (by decide) (fun K hK => ?_)
 refine goes_ Try.func13 (by kernel_rfl) rfl #[.agg #[.int .i64 u.f0, .int .i64 u.f1, .slice U.a2 u.f2.length U.k2, .slice U.a3 u.f3.length U.k3, .slice U.a4 u.f4.length U.k4, .slice U.a5 u.f5.length U.k5, .slice U.a6 u.f6.length U.k6, .slice U.a7 u.f7.length U.k7, .slice U.a8 u.f8.length U.k8, .int .i64 u.f9, .int .i64 u.f10, .int .i64 u.f11, .int .i64 u.f12], .agg #[.int .i64 t.f0, .int .i64 t.f1, .slice V.a2 t.f2.length V.k2, .slice V.a3 t.f3.length V.k3, .slice V.a4 t.f4.length V.k4, .slice V.a5 t.f5.length V.k5, .slice V.a6 t.f6.length V.k6, .slice V.a7 t.f7.length V.k7, .slice V.a8 t.f8.length V.k8, .int .i64 t.f9, .int .i64 t.f10, .int .i64 t.f11, .int .i64 t.f12]] (by rfl) rfl rfl (by first | rfl | (simp only [List.map_toArray, List.map_cons, List.map_nil]; rfl) | simp) ?_
 refine (same13_calls U V u t wc (HB.out.below HH.out).tb (HA.out.below HH.out).tb).mono ?_
 rintro e wd ⟨rfl, B2⟩
 rw [HCM.out, ← HBB.out]
 refine ⟨_, rfl, ?_⟩
 have HH2 := Aside0.mk (HH.out.trans (B2.mono HH.out.size))
 clear HH B2
 have HH := HH2
 clear HH2
 refine hK.out _ _ HH.out (fun _ => ?_)
 clear hK K
 refine norm_ (a' := ?_) ?_ ?_
 rotate_left
 ·show Act.put _ (some 15) _ = _
  simp only [Act.put, List.setIfInBounds_toArray, List.set_cons_zero, List.set_cons_succ, i64_w, i32_w]
  rfl
 refine one_ (i := 13) (N := some 18) #[true, true, true, true, true, true, true, true, true, true, true, true, true, true, false, false, false, false, false, false, false, false, false, false, false, false] rfl rfl (by kernel_rfl) (by decide) (fun K hK => ?_)
 refine goes_ Try.func13 (by kernel_rfl) rfl #[.agg #[.int .i64 t.f0, .int .i64 t.f1, .slice V.a2 t.f2.length V.k2, .slice V.a3 t.f3.length V.k3, .slice V.a4 t.f4.length V.k4, .slice V.a5 t.f5.length V.k5, .slice V.a6 t.f6.length V.k6, .slice V.a7 t.f7.length V.k7, .slice V.a8 t.f8.length V.k8, .int .i64 t.f9, .int .i64 t.f10, .int .i64 t.f11, .int .i64 t.f12], .agg #[.int .i64 u.f0, .int .i64 u.f1, .slice U.a2 u.f2.length U.k2, .slice U.a3 u.f3.length U.k3, .slice U.a4 u.f4.length U.k4, .slice U.a5 u.f5.length U.k5, .slice U.a6 u.f6.length U.k6, .slice U.a7 u.f7.length U.k7, .slice U.a8 u.f8.length U.k8, .int .i64 u.f9, .int .i64 u.f10, .int .i64 u.f11, .int .i64 u.f12]] (by rfl) rfl rfl (by first | rfl | (simp only [List.map_toArray, List.map_cons, List.map_nil]; rfl) | simp) ?_
 refine (same13_calls V U t u wd (HA.out.below HH.out).tb (HB.out.below HH.out).tb).mono ?_
 rintro e we ⟨rfl, B2⟩
 rw [← HBB.out]
 refine ⟨_, rfl, ?_⟩
 have HH2 := Aside0.mk (HH.out.trans (B2.mono HH.out.size))
 clear HH B2
 have HH := HH2
 clear HH2
 refine hK.out _ _ HH.out (fun _ => ?_)
 clear hK K
 refine norm_ (a' := ?_) ?_ ?_
 rotate_left
 ·show Act.put _ (some 18) _ = _
  simp only [Act.put, List.setIfInBounds_toArray, List.set_cons_zero, List.set_cons_succ, i64_w, i32_w]
  rfl
 refine pure_ (i := 14) (N := some 19) (v := ?_) (a' := ?_) #[true, true, true, true, true, true, true, true, true, true, true, true, true, true, true, false, false, false, false, false, false, false, false, false, false, false] rfl rfl (by kernel_rfl) (fun _ _ _ h => h) (Or.inl ⟨by rfl, ?_⟩) ?_ ?_
 rotate_left
 ·intro w_
  go_simp
  with_reducible rfl
 rotate_left
 ·simp only [Act.put, List.setIfInBounds_toArray, List.set_cons_zero, List.set_cons_succ, i64_w, i32_w]
  rfl
 refine pure_ (i := 15) (N := some 20) (v := ?_) (a' := ?_) #[true, true, true, true, true, true, true, true, true, true, true, true, true, true, true, true, false, false, false, false, false, false, false, false, false, false] rfl rfl (by kernel_rfl) (fun _ _ _ h => h) (Or.inl ⟨by rfl, ?_⟩) ?_ ?_
 rotate_left
 ·intro w_
  go_simp
  with_reducible rfl
 rotate_left
 ·simp only [Act.put, List.setIfInBounds_toArray, List.set_cons_zero, List.set_cons_succ, i64_w, i32_w]
  rfl
 refine pure_ (i := 16) (N := some 21) (v := ?_) (a' := ?_) #[true, true, true, true, true, true, true, true, true, true, true, true, true, true, true, true, true, false, false, false, false, false, false, false, false, false] rfl rfl (by kernel_rfl) (fun _ _ _ h => h) (Or.inl ⟨by rfl, ?_⟩) ?_ ?_
 rotate_left
 ·intro w_
  go_simp
  with_reducible rfl
 rotate_left
 ·simp only [Act.put, List.setIfInBounds_toArray, List.set_cons_zero, List.set_cons_succ, i64_w, i32_w]
  rfl
 refine take_ (i := 17) (N := some 22) (v := ?_) (a' := ?_) #[true, true, true, true, true, true, true, true, true, true, true, true, true, true, true, true, true, true, false, false, false, false, false, false, false, false] rfl rfl (by kernel_rfl) (fun _ _ _ h => h) (Or.inl ⟨by rfl, ?_⟩) HH.out ?_ ?_
 rotate_left
 ·rintro w_ s
  refine run33 (HA.out.below s) (.tmp 2) ?_ ?_ <;> rfl
 rotate_left
 ·simp only [Act.put, List.setIfInBounds_toArray, List.set_cons_zero, List.set_cons_succ, i64_w, i32_w]
  rfl
 refine take_ (i := 18) (N := some 23) (v := ?_) (a' := ?_) #[true, true, true, true, true, true, true, true, true, true, true, true, true, true, true, true, true, true, true, false, false, false, false, false, false, false] rfl rfl (by kernel_rfl) (fun _ _ _ h => h) (Or.inl ⟨by rfl, ?_⟩) HH.out ?_ ?_
 rotate_left
 ·rintro w_ s
  refine run33 (HA.out.below s) (.tmp 2) ?_ ?_ <;> rfl
 rotate_left
 ·simp only [Act.put, List.setIfInBounds_toArray, List.set_cons_zero, List.set_cons_succ, i64_w, i32_w]
  rfl
 refine one_ (i := 19) (N := some 24) #[true, true, true, true, true, true, true, true, true, true, true, true, true, true, true, true, true, true, true, true, false, false, false, false, false, false] rfl rfl (by kernel_rfl) (by decide) (fun K hK => ?_)
 refine goes_ Try.func19 (by kernel_rfl) rfl #[.agg #[.int .i64 t.f0, .int .i64 t.f1, .slice V.a2 t.f2.length V.k2, .slice V.a3 t.f3.length V.k3, .slice V.a4 t.f4.length V.k4, .slice V.a5 t.f5.length V.k5, .slice V.a6 t.f6.length V.k6, .slice V.a7 t.f7.length V.k7, .slice V.a8 t.f8.length V.k8, .int .i64 t.f9, .int .i64 t.f10, .int .i64 t.f11, .int .i64 t.f12]] (by rfl) rfl rfl (by first | rfl | (simp only [List.map_toArray, List.map_cons, List.map_nil]; rfl) | simp) ?_
 have hx := copy_calls V t we (HA.out.below HH.out).tb HWT.out
 unfold arr at hx
 refine hx.mono ?_
 clear hx
 rintro e wf ⟨W0, rfl, hR, B2⟩
 have HTC := Aside0.mk (tb_of hR (HA.out.tb.bd))
 clear hR
 refine ⟨_, rfl, ?_⟩
 have HH2 := Aside0.mk (HH.out.trans (B2.mono HH.out.size))
 clear HH B2
 have HH := HH2
 clear HH2
 refine hK.out _ _ HH.out (fun _ => ?_)
 clear hK K
 refine norm_ (a' := ?_) ?_ ?_
 rotate_left
 ·show Act.put _ (some 24) _ = _
  simp only [Act.put, List.setIfInBounds_toArray, List.set_cons_zero, List.set_cons_succ, i64_w, i32_w]
  rfl
 refine one_ (i := 20) (N := some 25) #[true, true, true, true, true, true, true, true, true, true, true, true, true, true, true, true, true, true, true, true, true, false, false, false, false, false] rfl rfl (by kernel_rfl) (by decide) (fun K hK => ?_)
 refine goes_ Try.func13 (by kernel_rfl) rfl #[.agg #[.int .i64 t.f0, .int .i64 t.f1, .slice V.a2 t.f2.length V.k2, .slice V.a3 t.f3.length V.k3, .slice V.a4 t.f4.length V.k4, .slice V.a5 t.f5.length V.k5, .slice V.a6 t.f6.length V.k6, .slice V.a7 t.f7.length V.k7, .slice V.a8 t.f8.length V.k8, .int .i64 t.f9, .int .i64 t.f10, .int .i64 t.f11, .int .i64 t.f12], .agg #[.int .i64 t.f0, .int .i64 t.f1, .slice W0.a2 t.f2.length W0.k2, .slice W0.a3 t.f3.length W0.k3, .slice W0.a4 t.f4.length W0.k4, .slice W0.a5 t.f5.length W0.k5, .slice W0.a6 t.f6.length W0.k6, .slice W0.a7 t.f7.length W0.k7, .slice W0.a8 t.f8.length W0.k8, .int .i64 t.f9, .int .i64 t.f10, .int .i64 t.f11, .int .i64 t.f12]] (by rfl) rfl rfl (by first | rfl | (simp only [List.map_toArray, List.map_cons, List.map_nil]; rfl) | simp) ?_
 refine (same13_calls V W0 t t wf (HA.out.below HH.out).tb HTC.out).mono ?_
 rintro e wg ⟨rfl, B2⟩
 rw [sameB_self]
 refine ⟨_, rfl, ?_⟩
 have HH2 := Aside0.mk (HH.out.trans (B2.mono HH.out.size))
 clear HH B2
 have HH := HH2
 clear HH2
 refine hK.out _ _ HH.out (fun _ => ?_)
 clear hK K
 refine norm_ (a' := ?_) ?_ ?_
 rotate_left
 ·show Act.put _ (some 25) _ = _
  simp only [Act.put, List.setIfInBounds_toArray, List.set_cons_zero, List.set_cons_succ, i64_w, i32_w]
  rfl
 refine pure_ (i := 21) (N := some 26) (v := ?_) (a' := ?_) #[true, true, true, true, true, true, true, true, true, true, true, true, true, true, true, true, true, true, true, true, true, true, false, false, false, false] rfl rfl (by kernel_rfl) (fun _ _ _ h => h) (Or.inl ⟨by rfl, ?_⟩) ?_ ?_
 rotate_left
 ·intro w_
  go_simp
  with_reducible rfl
 rotate_left
 ·simp only [Act.put, List.setIfInBounds_toArray, List.set_cons_zero, List.set_cons_succ, i64_w, i32_w]
  rfl
 refine pure_ (i := 22) (N := some 27) (v := ?_) (a' := ?_) #[true, true, true, true, true, true, true, true, true, true, true, true, true, true, true, true, true, true, true, true, true, true, true, false, false, false] rfl rfl (by kernel_rfl) (fun _ _ _ h => h) (Or.inl ⟨by rfl, ?_⟩) ?_ ?_
 rotate_left
 ·intro w_
  go_simp
  with_reducible rfl
 rotate_left
 ·simp only [Act.put, List.setIfInBounds_toArray, List.set_cons_zero, List.set_cons_succ, i64_w, i32_w]
  rfl
 refine one_ (i := 23) (N := some 28) #[true, true, true, true, true, true, true, true, true, true, true, true, true, true, true, true, true, true, true, true, true, true, true, true, false, false] rfl rfl (by kernel_rfl) (by decide) (fun K hK => ?_)
 refine goes_ Try.func15 (by kernel_rfl) rfl #[] (by rfl) rfl rfl (by first | rfl | (simp only [List.map_toArray, List.map_cons, List.map_nil]; rfl) | simp) ?_
 refine (alive_calls wg).mono ?_
 rintro e wh ⟨rfl, B2⟩
 refine ⟨_, rfl, ?_⟩
 have HH2 := Aside0.mk (HH.out.trans (B2.mono HH.out.size))
 clear HH B2
 have HH := HH2
 clear HH2
 refine hK.out _ _ HH.out (fun _ => ?_)
 clear hK K
 refine norm_ (a' := ?_) ?_ ?_
 rotate_left
 ·show Act.put _ (some 28) _ = _
  simp only [Act.put, List.setIfInBounds_toArray, List.set_cons_zero, List.set_cons_succ, i64_w, i32_w]
  rfl
 refine pure_ (i := 24) (N := some 29) (v := ?_) (a' := ?_) #[true, true, true, true, true, true, true, true, true, true, true, true, true, true, true, true, true, true, true, true, true, true, true, true, true, false] rfl rfl (by kernel_rfl) (fun _ _ _ h => h) (Or.inl ⟨by rfl, ?_⟩) ?_ ?_
 rotate_left
 ·intro w_
  go_simp
  with_reducible rfl
 rotate_left
 ·simp only [Act.put, List.setIfInBounds_toArray, List.set_cons_zero, List.set_cons_succ, i64_w, i32_w]
  rfl
 refine pure_ (i := 25) (N := some 4) (v := ?_) (a' := ?_) #[true, true, true, true, true, true, true, true, true, true, true, true, true, true, true, true, true, true, true, true, true, true, true, true, true, true] rfl rfl (by kernel_rfl) (fun _ _ _ h => h) (Or.inl ⟨by rfl, ?_⟩) ?_ ?_
 rotate_left
 ·intro w_
  go_simp
  with_reducible rfl
 rotate_left
 ·simp only [Act.put, List.setIfInBounds_toArray, List.set_cons_zero, List.set_cons_succ, i64_w, i32_w]
  rfl
 refine done_ (by kernel_rfl) ?_
 go_wp2_with fail
 go_ret
 exact ⟨rfl, HW.out.trans (HH.out.mono HW.out.size)⟩
end Go.Proofs.Ytbgcemijihpakaa.XA
end
section
namespace Go.Proofs.Ytbgcemijihpakaa.Pure
open Go.RowKit Go.Proofs.Ytbgcemijihpakaa.XA Go.Proofs.YtbgcemijihpakaaW.PrintWords
theorem wt33 {t : S33} (h : sz33 t) : Wt t := by
 obtain ⟨_, _, ⟨h2, g2⟩, ⟨h3, _⟩, ⟨h4, _⟩, ⟨h5, _⟩, ⟨h6, _⟩, ⟨h7, g7⟩, ⟨h8, _⟩, _⟩ := h
 have e69 : Try.prog.bytesOf 69 = 80 := by kernel_rfl
 have e88 : Try.prog.bytesOf 88 = 16 := by kernel_rfl
 have e66 : Try.prog.bytesOf 66 = 16 := by kernel_rfl
 have e95 : Try.prog.bytesOf 95 = 12 := by kernel_rfl
 have e102 : Try.prog.bytesOf 102 = 48 := by kernel_rfl
 have e107 : Try.prog.bytesOf 107 = 40 := by kernel_rfl
 have e113 : Try.prog.bytesOf 113 = 64 := by kernel_rfl
 have e3 : Try.prog.bytesOf 3 = 8 := by kernel_rfl
 have er : reachBytes = 140737488351232 := by decide
 rw [e69, er] at h2
 rw [e88, er] at h3
 rw [e66, er] at h4
 rw [e95, er] at h5
 rw [e102, er] at h6
 rw [e107, er] at h7
 rw [e113, er] at h8
 refine ⟨by omega, by omega, by omega, by omega, by omega, by omega, by omega, fun x hx => ?_, fun x hx => ?_⟩
 ·obtain ⟨_, _, _, _, _, _, ⟨h, _⟩, _⟩ := g2 x hx
  rw [e3, er] at h
  omega
 ·obtain ⟨_, _, ⟨h, _⟩⟩ := g7 x hx
  rw [e3, er] at h
  omega
theorem same_row (W : World) (cs : Array Value) (t : S33) (hK : k33.K W t cs.toList) (_ok : ok33 t) (hsz : sz33 t) (cs2 : Array Value) (u : S33) (hK2 : k33.K W u cs2.toList) (_ok2 : ok33 u) (hsz2 : sz33 u) :
  Calls Try.prog 7 #[.agg cs, .agg cs2] W fun e W' => e = .returned (.bool true) ∧ Below W.heap.size W W' := by
 obtain ⟨V, rfl, hT⟩ := open33 hK hsz
 obtain ⟨U, rfl, hU⟩ := open33 hK2 hsz2
 exact same_walk V U t u W hT hU (wt33 hsz)
end Go.Proofs.Ytbgcemijihpakaa.Pure
end
