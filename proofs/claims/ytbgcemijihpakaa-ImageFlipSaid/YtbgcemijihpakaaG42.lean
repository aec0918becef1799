/- the document's Same: are two tables alike? -/
import Derived.Test.YtbgcemijihpakaaG40
import Derived.Test.YtbgcemijihpakaaG41
import Derived.Test.YtbgcemijihpakaaG13
import Derived.Test.YtbgcemijihpakaaG23
namespace Go.Proofs.Ytbgcemijihpakaa.XA
set_option linter.unusedVariables false
set_option linter.unusedSimpArgs false
open Go.RowKit Go.WideMaps Go.Maps Go.Proofs.YtbgcemijihpakaaW.PrintWords Go.Proofs.YtbgcemijihpakaaW.PrintLast Go.Proofs.YtbgcemijihpakaaW.PrintMore
theorem sameB_no {t u : S33} (h : t ≠ u) : sameB t u = false := by
 rcases hs : sameB t u with _ | _
 ·rfl
 ·exact absurd ((sameB_iff t u).mp hs) h
theorem list_eq {α : Type} {d : α} {xs ys : List α} (hl : xs.length = ys.length) (h : ∀ j, j < xs.length → xs.getD j d = ys.getD j d) : xs = ys := by
 apply List.ext_getElem hl
 intro j h1 h2
 have := h j h1
 rw [List.getD_eq_getElem?_getD, List.getD_eq_getElem?_getD, List.getElem?_eq_getElem h1, List.getElem?_eq_getElem h2] at this
 exact this
theorem upto_eq {α : Type} {d x : α} {xs ys : List α} {k : Nat} (h : ∀ j, j < k → xs.getD j d = ys.getD j d) (hx : xs.getD k d = x) (hy : ys.getD k d = x) : ∀ j, j < k + 1 → xs.getD j d = ys.getD j d := fun j hj => by
 rcases Nat.lt_or_ge j k with h1 | h1
 ·exact h j h1
 ·obtain rfl : j = k := by omega
  rw [hx, hy]
theorem eqL_self (l : List Int) : eqL eqI l l = true := (eqL_iff eqI_iff l l).mpr rfl
/-- as many rows of each kind -/
def LenEq (t u : S33) : Prop := t.f2.length = u.f2.length ∧ t.f3.length = u.f3.length ∧ t.f4.length = u.f4.length ∧ t.f5.length = u.f5.length ∧ t.f6.length = u.f6.length ∧ t.f7.length = u.f7.length ∧ t.f8.length = u.f8.length
theorem len_eq {t u : S33} (h : eqL eqI (cntsL t) (cntsL u) = true) : LenEq t u := by
 have := (eqL_iff eqI_iff _ _).mp h
 unfold cntsL at this
 simp only [List.cons.injEq, and_true] at this
 unfold LenEq
 omega
theorem rows_calls (V : TV) (t : S33) (w : World) (h : Tb w V t) : Calls Try.prog 55 #[.agg (arr V t)] w fun e w' => ∃ A c, e = .returned (.slice A (cntsL t).length c) ∧ (Kd.int .i64).C w' A (cntsL t).length (cntsL t) ∧ (cntsL t).length ≤ c ∧ Below w.heap.size w w' := by
 have hx := tappetref10_rows.calls t.f0 t.f1 V.a2 V.k2 t.f2 V.a3 V.k3 t.f3 V.a4 V.k4 t.f4 V.a5 V.k5 t.f5 V.a6 V.k6 t.f6 V.a7 V.k7 t.f7 V.a8 V.k8 t.f8 t.f9 t.f10 t.f11 t.f12 (cntsL t) w h.tk h.tkl h.rg h.rgl h.rs h.rsl h.ct h.ctl h.al h.all h.ir h.irl h.mg h.mgl rfl
 refine hx.mono ?_
 rintro e w' ⟨v, rfl, hR, hb⟩
 obtain ⟨A, c, rfl, hl, hC⟩ := Kd.R_reads hR
 exact ⟨A, c, rfl, hC, hl, hb⟩
set_option maxRecDepth 1000000 in
set_option maxHeartbeats 40000000 in
theorem same12_calls (V U : TV) (t u : S33) (w : World) (ht : Tb w V t) (hu : Tb w U u) :
  Calls Try.prog 12 #[.agg (arr V t), .agg (arr U u)] w fun e w' => e = .returned (.bool (sameB t u)) ∧ Below w.heap.size w w' := by
 have b1 := below_a w (.cells (arr V t) 33)
 have b2 := below_a (w.alloc (.cells (arr V t) 33)) (.cells (arr U u) 33)
 have hsz : (w.alloc (.cells (arr V t) 33)).heap.size = w.heap.size + 1 := by simp
 have HA := Aside0.mk ((At.made ht).below b2)
 have hb := At.made (hu.below b1)
 rw [hsz] at hb
 have HB := Aside0.mk hb
 have HW := Aside0.mk (b1.trans (b2.mono b1.size))
 clear ht hu b1 b2 hsz hb
 unfold arr at *
 go_enter Try.func12, Try.ntmps12
 go_upto_region 1 with fail
 generalize (w.alloc (.cells #[.int .i64 t.f0, .int .i64 t.f1, .slice V.a2 t.f2.length V.k2, .slice V.a3 t.f3.length V.k3, .slice V.a4 t.f4.length V.k4, .slice V.a5 t.f5.length V.k5, .slice V.a6 t.f6.length V.k6, .slice V.a7 t.f7.length V.k7, .slice V.a8 t.f8.length V.k8, .int .i64 t.f9, .int .i64 t.f10, .int .i64 t.f11, .int .i64 t.f12] 33)).alloc (.cells #[.int .i64 u.f0, .int .i64 u.f1, .slice U.a2 u.f2.length U.k2, .slice U.a3 u.f3.length U.k3, .slice U.a4 u.f4.length U.k4, .slice U.a5 u.f5.length U.k5, .slice U.a6 u.f6.length U.k6, .slice U.a7 u.f7.length U.k7, .slice U.a8 u.f8.length U.k8, .int .i64 u.f9, .int .i64 u.f10, .int .i64 u.f11, .int .i64 u.f12] 33) = w2 at *
 generalize w.heap.size + 1 = QQ at HB ⊢
 obtain ⟨PP, hP⟩ : ∃ P, P = w.heap.size := ⟨_, rfl⟩
 rw [← hP] at HA ⊢
 clear hP
 have GR := Aside0.mk (fun (w_ : World) (s : Below w2.heap.size w2 w_) => (⟨(HA.out.below s).q0, (HB.out.below s).q0, (HA.out.below s).q1, (HB.out.below s).q1, (HA.out.below s).q9, (HB.out.below s).q9, (HA.out.below s).q10, (HB.out.below s).q10, (HA.out.below s).q11, (HB.out.below s).q11, (HA.out.below s).q12, (HB.out.below s).q12⟩ : w_.cell? ⟨PP, 0, none⟩ = some (.int .i64 t.f0) ∧ w_.cell? ⟨QQ, 0, none⟩ = some (.int .i64 u.f0) ∧ w_.cell? ⟨PP, 1, none⟩ = some (.int .i64 t.f1) ∧ w_.cell? ⟨QQ, 1, none⟩ = some (.int .i64 u.f1) ∧ w_.cell? ⟨PP, 9, none⟩ = some (.int .i64 t.f9) ∧ w_.cell? ⟨QQ, 9, none⟩ = some (.int .i64 u.f9) ∧ w_.cell? ⟨PP, 10, none⟩ = some (.int .i64 t.f10) ∧ w_.cell? ⟨QQ, 10, none⟩ = some (.int .i64 u.f10) ∧ w_.cell? ⟨PP, 11, none⟩ = some (.int .i64 t.f11) ∧ w_.cell? ⟨QQ, 11, none⟩ = some (.int .i64 u.f11) ∧ w_.cell? ⟨PP, 12, none⟩ = some (.int .i64 t.f12) ∧ w_.cell? ⟨QQ, 12, none⟩ = some (.int .i64 u.f12)))
 rcases h0 : (t.f0 == u.f0) with _ | _
 ·as_aux_lemma =>
  have g0 : (t.f0 != u.f0) = true := by rw [bne_iff_ne]; exact beq_eq_false_iff_ne.mp h0
  refine start_ (n := 48) (S := fun w_ => Below w2.heap.size w2 w_) (ds := []) #[false, false, false, false, false, false, false, false, false, false, false, false, false, false, false, false, false, false, false, false, false, false, false, false, false, false, false, false, false, false, false, false, false, false, false, false, false, false, false, false, false, false, false, false, false, false, false, false] (by kernel_rfl) rfl rfl (drew_below w2) (fun hHeld => ?_)
  have HH := Aside0.mk hHeld
  clear hHeld
  generalize w2.drew = wv at HH ⊢
  refine seq_start (n := 48) [] (by kernel_rfl) (by rfl) (fun HSQ => ?_)
  iterate 2
   refine seqp_ (v := ?_) (a' := ?_) HSQ.out rfl rfl rfl (fun _ _ _ h => h) (Or.inl ⟨by rfl, ?_⟩) ?_ ?_
   rotate_left
   ·intro w_
    go_simp
    with_reducible rfl
   rotate_left
   ·simp only [Act.put, List.setIfInBounds_toArray, List.set_cons_zero, List.set_cons_succ, i64_w, i32_w]
    rfl
   refine seqt_ (v := ?_) (a' := ?_) HSQ.out rfl rfl rfl (by kernel_rfl) (fun _ _ _ h => h) (Or.inl ⟨by rfl, ?_⟩) HH.out ?_ ?_
   rotate_left
   ·rintro w_ s
    obtain ⟨a0, b0, a1, b1, a9, b9, a10, b10, a11, b11, a12, b12⟩ := GR.out w_ s
    go_simp
    with_reducible rfl
   rotate_left
   ·simp only [Act.put, List.setIfInBounds_toArray, List.set_cons_zero, List.set_cons_succ, i64_w, i32_w]
    rfl
  iterate 2
   refine seqp_ (v := ?_) (a' := ?_) HSQ.out rfl rfl rfl (fun _ _ _ h => h) (Or.inl ⟨by rfl, ?_⟩) ?_ ?_
   rotate_left
   ·intro w_
    go_simp
    with_reducible rfl
   rotate_left
   ·simp only [Act.put, List.setIfInBounds_toArray, List.set_cons_zero, List.set_cons_succ, i64_w, i32_w]
    rfl
  iterate 5 refine seqs_ HSQ.out rfl rfl rfl (fun _ _ _ h => h) (by rfl) (by rfl) ?_
  iterate 2
   refine seqp_ (v := ?_) (a' := ?_) HSQ.out rfl rfl rfl (fun _ _ _ h => h) (Or.inl ⟨by rfl, ?_⟩) ?_ ?_
   rotate_left
   ·intro w_
    go_simp
    with_reducible rfl
   rotate_left
   ·simp only [Act.put, List.setIfInBounds_toArray, List.set_cons_zero, List.set_cons_succ, i64_w, i32_w]
    rfl
  iterate 5 refine seqs_ HSQ.out rfl rfl rfl (fun _ _ _ h => h) (by rfl) (by rfl) ?_
  iterate 2
   refine seqp_ (v := ?_) (a' := ?_) HSQ.out rfl rfl rfl (fun _ _ _ h => h) (Or.inl ⟨by rfl, ?_⟩) ?_ ?_
   rotate_left
   ·intro w_
    go_simp
    with_reducible rfl
   rotate_left
   ·simp only [Act.put, List.setIfInBounds_toArray, List.set_cons_zero, List.set_cons_succ, i64_w, i32_w]
    rfl
  iterate 5 refine seqs_ HSQ.out rfl rfl rfl (fun _ _ _ h => h) (by rfl) (by rfl) ?_
  iterate 2
   refine seqp_ (v := ?_) (a' := ?_) HSQ.out rfl rfl rfl (fun _ _ _ h => h) (Or.inl ⟨by rfl, ?_⟩) ?_ ?_
   rotate_left
   ·intro w_
    go_simp
    with_reducible rfl
   rotate_left
   ·simp only [Act.put, List.setIfInBounds_toArray, List.set_cons_zero, List.set_cons_succ, i64_w, i32_w]
    rfl
  iterate 5 refine seqs_ HSQ.out rfl rfl rfl (fun _ _ _ h => h) (by rfl) (by rfl) ?_
  iterate 2
   refine seqp_ (v := ?_) (a' := ?_) HSQ.out rfl rfl rfl (fun _ _ _ h => h) (Or.inl ⟨by rfl, ?_⟩) ?_ ?_
   rotate_left
   ·intro w_
    go_simp
    with_reducible rfl
   rotate_left
   ·simp only [Act.put, List.setIfInBounds_toArray, List.set_cons_zero, List.set_cons_succ, i64_w, i32_w]
    rfl
  iterate 5 refine seqs_ HSQ.out rfl rfl rfl (fun _ _ _ h => h) (by rfl) (by rfl) ?_
  iterate 2
   refine seqp_ (v := ?_) (a' := ?_) HSQ.out rfl rfl rfl (fun _ _ _ h => h) (Or.inl ⟨by rfl, ?_⟩) ?_ ?_
   rotate_left
   ·intro w_
    go_simp
    with_reducible rfl
   rotate_left
   ·simp only [Act.put, List.setIfInBounds_toArray, List.set_cons_zero, List.set_cons_succ, i64_w, i32_w]
    rfl
  iterate 6 refine seqs_ HSQ.out rfl rfl rfl (fun _ _ _ h => h) (by rfl) (by rfl) ?_
  refine seqp_ (v := ?_) (a' := ?_) HSQ.out rfl rfl rfl (fun _ _ _ h => h) (Or.inl ⟨by rfl, ?_⟩) ?_ ?_
  rotate_left
  ·intro w_
   go_simp
   with_reducible rfl
  rotate_left
  ·simp only [Act.put, List.setIfInBounds_toArray, List.set_cons_zero, List.set_cons_succ, i64_w, i32_w]
   rfl
  refine seqd_ HSQ.out ?_
  clear HSQ
  go_wp2_with fail
  go_ret
  exact ⟨ret_b (show sameB t u = false from by unfold sameB headB; simp only [h0, Bool.true_and, Bool.false_and]), HW.out.trans (HH.out.mono HW.out.size)⟩
 have g0 : (t.f0 != u.f0) = false := by rw [bne_eq_false_iff_eq]; exact beq_iff_eq.mp h0
 rcases h1 : (t.f1 == u.f1) with _ | _
 ·as_aux_lemma =>
  have g1 : (t.f1 != u.f1) = true := by rw [bne_iff_ne]; exact beq_eq_false_iff_ne.mp h1
  refine start_ (n := 48) (S := fun w_ => Below w2.heap.size w2 w_) (ds := []) #[false, false, false, false, false, false, false, false, false, false, false, false, false, false, false, false, false, false, false, false, false, false, false, false, false, false, false, false, false, false, false, false, false, false, false, false, false, false, false, false, false, false, false, false, false, false, false, false] (by kernel_rfl) rfl rfl (drew_below w2) (fun hHeld => ?_)
  have HH := Aside0.mk hHeld
  clear hHeld
  generalize w2.drew = wv at HH ⊢
  refine seq_start (n := 48) [] (by kernel_rfl) (by rfl) (fun HSQ => ?_)
  iterate 2
   refine seqp_ (v := ?_) (a' := ?_) HSQ.out rfl rfl rfl (fun _ _ _ h => h) (Or.inl ⟨by rfl, ?_⟩) ?_ ?_
   rotate_left
   ·intro w_
    go_simp
    with_reducible rfl
   rotate_left
   ·simp only [Act.put, List.setIfInBounds_toArray, List.set_cons_zero, List.set_cons_succ, i64_w, i32_w]
    rfl
   refine seqt_ (v := ?_) (a' := ?_) HSQ.out rfl rfl rfl (by kernel_rfl) (fun _ _ _ h => h) (Or.inl ⟨by rfl, ?_⟩) HH.out ?_ ?_
   rotate_left
   ·rintro w_ s
    obtain ⟨a0, b0, a1, b1, a9, b9, a10, b10, a11, b11, a12, b12⟩ := GR.out w_ s
    go_simp
    with_reducible rfl
   rotate_left
   ·simp only [Act.put, List.setIfInBounds_toArray, List.set_cons_zero, List.set_cons_succ, i64_w, i32_w]
    rfl
   refine seqp_ (v := ?_) (a' := ?_) HSQ.out rfl rfl rfl (fun _ _ _ h => h) (Or.inl ⟨by rfl, ?_⟩) ?_ ?_
   rotate_left
   ·intro w_
    go_simp
    with_reducible rfl
   rotate_left
   ·simp only [Act.put, List.setIfInBounds_toArray, List.set_cons_zero, List.set_cons_succ, i64_w, i32_w]
    rfl
   refine seqt_ (v := ?_) (a' := ?_) HSQ.out rfl rfl rfl (by kernel_rfl) (fun _ _ _ h => h) (Or.inl ⟨by rfl, ?_⟩) HH.out ?_ ?_
   rotate_left
   ·rintro w_ s
    obtain ⟨a0, b0, a1, b1, a9, b9, a10, b10, a11, b11, a12, b12⟩ := GR.out w_ s
    go_simp
    with_reducible rfl
   rotate_left
   ·simp only [Act.put, List.setIfInBounds_toArray, List.set_cons_zero, List.set_cons_succ, i64_w, i32_w]
    rfl
   iterate 2
    refine seqp_ (v := ?_) (a' := ?_) HSQ.out rfl rfl rfl (fun _ _ _ h => h) (Or.inl ⟨by rfl, ?_⟩) ?_ ?_
    rotate_left
    ·intro w_
     go_simp
     with_reducible rfl
    rotate_left
    ·simp only [Act.put, List.setIfInBounds_toArray, List.set_cons_zero, List.set_cons_succ, i64_w, i32_w]
     rfl
  refine seqp_ (v := ?_) (a' := ?_) HSQ.out rfl rfl rfl (fun _ _ _ h => h) (Or.inl ⟨by rfl, ?_⟩) ?_ ?_
  rotate_left
  ·intro w_
   go_simp
   with_reducible rfl
  rotate_left
  ·simp only [Act.put, List.setIfInBounds_toArray, List.set_cons_zero, List.set_cons_succ, i64_w, i32_w]
   rfl
  iterate 5 refine seqs_ HSQ.out rfl rfl rfl (fun _ _ _ h => h) (by rfl) (by rfl) ?_
  iterate 2
   refine seqp_ (v := ?_) (a' := ?_) HSQ.out rfl rfl rfl (fun _ _ _ h => h) (Or.inl ⟨by rfl, ?_⟩) ?_ ?_
   rotate_left
   ·intro w_
    go_simp
    with_reducible rfl
   rotate_left
   ·simp only [Act.put, List.setIfInBounds_toArray, List.set_cons_zero, List.set_cons_succ, i64_w, i32_w]
    rfl
  iterate 5 refine seqs_ HSQ.out rfl rfl rfl (fun _ _ _ h => h) (by rfl) (by rfl) ?_
  iterate 2
   refine seqp_ (v := ?_) (a' := ?_) HSQ.out rfl rfl rfl (fun _ _ _ h => h) (Or.inl ⟨by rfl, ?_⟩) ?_ ?_
   rotate_left
   ·intro w_
    go_simp
    with_reducible rfl
   rotate_left
   ·simp only [Act.put, List.setIfInBounds_toArray, List.set_cons_zero, List.set_cons_succ, i64_w, i32_w]
    rfl
  iterate 5 refine seqs_ HSQ.out rfl rfl rfl (fun _ _ _ h => h) (by rfl) (by rfl) ?_
  iterate 2
   refine seqp_ (v := ?_) (a' := ?_) HSQ.out rfl rfl rfl (fun _ _ _ h => h) (Or.inl ⟨by rfl, ?_⟩) ?_ ?_
   rotate_left
   ·intro w_
    go_simp
    with_reducible rfl
   rotate_left
   ·simp only [Act.put, List.setIfInBounds_toArray, List.set_cons_zero, List.set_cons_succ, i64_w, i32_w]
    rfl
  iterate 5 refine seqs_ HSQ.out rfl rfl rfl (fun _ _ _ h => h) (by rfl) (by rfl) ?_
  iterate 2
   refine seqp_ (v := ?_) (a' := ?_) HSQ.out rfl rfl rfl (fun _ _ _ h => h) (Or.inl ⟨by rfl, ?_⟩) ?_ ?_
   rotate_left
   ·intro w_
    go_simp
    with_reducible rfl
   rotate_left
   ·simp only [Act.put, List.setIfInBounds_toArray, List.set_cons_zero, List.set_cons_succ, i64_w, i32_w]
    rfl
  iterate 6 refine seqs_ HSQ.out rfl rfl rfl (fun _ _ _ h => h) (by rfl) (by rfl) ?_
  refine seqp_ (v := ?_) (a' := ?_) HSQ.out rfl rfl rfl (fun _ _ _ h => h) (Or.inl ⟨by rfl, ?_⟩) ?_ ?_
  rotate_left
  ·intro w_
   go_simp
   with_reducible rfl
  rotate_left
  ·simp only [Act.put, List.setIfInBounds_toArray, List.set_cons_zero, List.set_cons_succ, i64_w, i32_w]
   rfl
  refine seqd_ HSQ.out ?_
  clear HSQ
  go_wp2_with fail
  go_ret
  exact ⟨ret_b (show sameB t u = false from by unfold sameB headB; simp only [h0, h1, Bool.true_and, Bool.false_and]), HW.out.trans (HH.out.mono HW.out.size)⟩
 have g1 : (t.f1 != u.f1) = false := by rw [bne_eq_false_iff_eq]; exact beq_iff_eq.mp h1
 rcases h9 : (t.f9 == u.f9) with _ | _
 ·as_aux_lemma =>
  have g9 : (t.f9 != u.f9) = true := by rw [bne_iff_ne]; exact beq_eq_false_iff_ne.mp h9
  refine start_ (n := 48) (S := fun w_ => Below w2.heap.size w2 w_) (ds := []) #[false, false, false, false, false, false, false, false, false, false, false, false, false, false, false, false, false, false, false, false, false, false, false, false, false, false, false, false, false, false, false, false, false, false, false, false, false, false, false, false, false, false, false, false, false, false, false, false] (by kernel_rfl) rfl rfl (drew_below w2) (fun hHeld => ?_)
  have HH := Aside0.mk hHeld
  clear hHeld
  generalize w2.drew = wv at HH ⊢
  refine seq_start (n := 48) [] (by kernel_rfl) (by rfl) (fun HSQ => ?_)
  iterate 2
   refine seqp_ (v := ?_) (a' := ?_) HSQ.out rfl rfl rfl (fun _ _ _ h => h) (Or.inl ⟨by rfl, ?_⟩) ?_ ?_
   rotate_left
   ·intro w_
    go_simp
    with_reducible rfl
   rotate_left
   ·simp only [Act.put, List.setIfInBounds_toArray, List.set_cons_zero, List.set_cons_succ, i64_w, i32_w]
    rfl
   refine seqt_ (v := ?_) (a' := ?_) HSQ.out rfl rfl rfl (by kernel_rfl) (fun _ _ _ h => h) (Or.inl ⟨by rfl, ?_⟩) HH.out ?_ ?_
   rotate_left
   ·rintro w_ s
    obtain ⟨a0, b0, a1, b1, a9, b9, a10, b10, a11, b11, a12, b12⟩ := GR.out w_ s
    go_simp
    with_reducible rfl
   rotate_left
   ·simp only [Act.put, List.setIfInBounds_toArray, List.set_cons_zero, List.set_cons_succ, i64_w, i32_w]
    rfl
   refine seqp_ (v := ?_) (a' := ?_) HSQ.out rfl rfl rfl (fun _ _ _ h => h) (Or.inl ⟨by rfl, ?_⟩) ?_ ?_
   rotate_left
   ·intro w_
    go_simp
    with_reducible rfl
   rotate_left
   ·simp only [Act.put, List.setIfInBounds_toArray, List.set_cons_zero, List.set_cons_succ, i64_w, i32_w]
    rfl
   refine seqt_ (v := ?_) (a' := ?_) HSQ.out rfl rfl rfl (by kernel_rfl) (fun _ _ _ h => h) (Or.inl ⟨by rfl, ?_⟩) HH.out ?_ ?_
   rotate_left
   ·rintro w_ s
    obtain ⟨a0, b0, a1, b1, a9, b9, a10, b10, a11, b11, a12, b12⟩ := GR.out w_ s
    go_simp
    with_reducible rfl
   rotate_left
   ·simp only [Act.put, List.setIfInBounds_toArray, List.set_cons_zero, List.set_cons_succ, i64_w, i32_w]
    rfl
   iterate 2
    refine seqp_ (v := ?_) (a' := ?_) HSQ.out rfl rfl rfl (fun _ _ _ h => h) (Or.inl ⟨by rfl, ?_⟩) ?_ ?_
    rotate_left
    ·intro w_
     go_simp
     with_reducible rfl
    rotate_left
    ·simp only [Act.put, List.setIfInBounds_toArray, List.set_cons_zero, List.set_cons_succ, i64_w, i32_w]
     rfl
  iterate 2
   refine seqp_ (v := ?_) (a' := ?_) HSQ.out rfl rfl rfl (fun _ _ _ h => h) (Or.inl ⟨by rfl, ?_⟩) ?_ ?_
   rotate_left
   ·intro w_
    go_simp
    with_reducible rfl
   rotate_left
   ·simp only [Act.put, List.setIfInBounds_toArray, List.set_cons_zero, List.set_cons_succ, i64_w, i32_w]
    rfl
  iterate 2
   refine seqt_ (v := ?_) (a' := ?_) HSQ.out rfl rfl rfl (by kernel_rfl) (fun _ _ _ h => h) (Or.inl ⟨by rfl, ?_⟩) HH.out ?_ ?_
   rotate_left
   ·rintro w_ s
    obtain ⟨a0, b0, a1, b1, a9, b9, a10, b10, a11, b11, a12, b12⟩ := GR.out w_ s
    go_simp
    with_reducible rfl
   rotate_left
   ·simp only [Act.put, List.setIfInBounds_toArray, List.set_cons_zero, List.set_cons_succ, i64_w, i32_w]
    rfl
   refine seqp_ (v := ?_) (a' := ?_) HSQ.out rfl rfl rfl (fun _ _ _ h => h) (Or.inl ⟨by rfl, ?_⟩) ?_ ?_
   rotate_left
   ·intro w_
    go_simp
    with_reducible rfl
   rotate_left
   ·simp only [Act.put, List.setIfInBounds_toArray, List.set_cons_zero, List.set_cons_succ, i64_w, i32_w]
    rfl
  iterate 2
   refine seqp_ (v := ?_) (a' := ?_) HSQ.out rfl rfl rfl (fun _ _ _ h => h) (Or.inl ⟨by rfl, ?_⟩) ?_ ?_
   rotate_left
   ·intro w_
    go_simp
    with_reducible rfl
   rotate_left
   ·simp only [Act.put, List.setIfInBounds_toArray, List.set_cons_zero, List.set_cons_succ, i64_w, i32_w]
    rfl
  iterate 5 refine seqs_ HSQ.out rfl rfl rfl (fun _ _ _ h => h) (by rfl) (by rfl) ?_
  iterate 2
   refine seqp_ (v := ?_) (a' := ?_) HSQ.out rfl rfl rfl (fun _ _ _ h => h) (Or.inl ⟨by rfl, ?_⟩) ?_ ?_
   rotate_left
   ·intro w_
    go_simp
    with_reducible rfl
   rotate_left
   ·simp only [Act.put, List.setIfInBounds_toArray, List.set_cons_zero, List.set_cons_succ, i64_w, i32_w]
    rfl
  iterate 5 refine seqs_ HSQ.out rfl rfl rfl (fun _ _ _ h => h) (by rfl) (by rfl) ?_
  iterate 2
   refine seqp_ (v := ?_) (a' := ?_) HSQ.out rfl rfl rfl (fun _ _ _ h => h) (Or.inl ⟨by rfl, ?_⟩) ?_ ?_
   rotate_left
   ·intro w_
    go_simp
    with_reducible rfl
   rotate_left
   ·simp only [Act.put, List.setIfInBounds_toArray, List.set_cons_zero, List.set_cons_succ, i64_w, i32_w]
    rfl
  iterate 5 refine seqs_ HSQ.out rfl rfl rfl (fun _ _ _ h => h) (by rfl) (by rfl) ?_
  iterate 2
   refine seqp_ (v := ?_) (a' := ?_) HSQ.out rfl rfl rfl (fun _ _ _ h => h) (Or.inl ⟨by rfl, ?_⟩) ?_ ?_
   rotate_left
   ·intro w_
    go_simp
    with_reducible rfl
   rotate_left
   ·simp only [Act.put, List.setIfInBounds_toArray, List.set_cons_zero, List.set_cons_succ, i64_w, i32_w]
    rfl
  iterate 6 refine seqs_ HSQ.out rfl rfl rfl (fun _ _ _ h => h) (by rfl) (by rfl) ?_
  refine seqp_ (v := ?_) (a' := ?_) HSQ.out rfl rfl rfl (fun _ _ _ h => h) (Or.inl ⟨by rfl, ?_⟩) ?_ ?_
  rotate_left
  ·intro w_
   go_simp
   with_reducible rfl
  rotate_left
  ·simp only [Act.put, List.setIfInBounds_toArray, List.set_cons_zero, List.set_cons_succ, i64_w, i32_w]
   rfl
  refine seqd_ HSQ.out ?_
  clear HSQ
  go_wp2_with fail
  go_ret
  exact ⟨ret_b (show sameB t u = false from by unfold sameB headB; simp only [h0, h1, h9, Bool.true_and, Bool.false_and]), HW.out.trans (HH.out.mono HW.out.size)⟩
 have g9 : (t.f9 != u.f9) = false := by rw [bne_eq_false_iff_eq]; exact beq_iff_eq.mp h9
 rcases h10 : (t.f10 == u.f10) with _ | _
 ·as_aux_lemma =>
  have g10 : (t.f10 != u.f10) = true := by rw [bne_iff_ne]; exact beq_eq_false_iff_ne.mp h10
  refine start_ (n := 48) (S := fun w_ => Below w2.heap.size w2 w_) (ds := []) #[false, false, false, false, false, false, false, false, false, false, false, false, false, false, false, false, false, false, false, false, false, false, false, false, false, false, false, false, false, false, false, false, false, false, false, false, false, false, false, false, false, false, false, false, false, false, false, false] (by kernel_rfl) rfl rfl (drew_below w2) (fun hHeld => ?_)
  have HH := Aside0.mk hHeld
  clear hHeld
  generalize w2.drew = wv at HH ⊢
  refine seq_start (n := 48) [] (by kernel_rfl) (by rfl) (fun HSQ => ?_)
  iterate 2
   refine seqp_ (v := ?_) (a' := ?_) HSQ.out rfl rfl rfl (fun _ _ _ h => h) (Or.inl ⟨by rfl, ?_⟩) ?_ ?_
   rotate_left
   ·intro w_
    go_simp
    with_reducible rfl
   rotate_left
   ·simp only [Act.put, List.setIfInBounds_toArray, List.set_cons_zero, List.set_cons_succ, i64_w, i32_w]
    rfl
   refine seqt_ (v := ?_) (a' := ?_) HSQ.out rfl rfl rfl (by kernel_rfl) (fun _ _ _ h => h) (Or.inl ⟨by rfl, ?_⟩) HH.out ?_ ?_
   rotate_left
   ·rintro w_ s
    obtain ⟨a0, b0, a1, b1, a9, b9, a10, b10, a11, b11, a12, b12⟩ := GR.out w_ s
    go_simp
    with_reducible rfl
   rotate_left
   ·simp only [Act.put, List.setIfInBounds_toArray, List.set_cons_zero, List.set_cons_succ, i64_w, i32_w]
    rfl
   refine seqp_ (v := ?_) (a' := ?_) HSQ.out rfl rfl rfl (fun _ _ _ h => h) (Or.inl ⟨by rfl, ?_⟩) ?_ ?_
   rotate_left
   ·intro w_
    go_simp
    with_reducible rfl
   rotate_left
   ·simp only [Act.put, List.setIfInBounds_toArray, List.set_cons_zero, List.set_cons_succ, i64_w, i32_w]
    rfl
   refine seqt_ (v := ?_) (a' := ?_) HSQ.out rfl rfl rfl (by kernel_rfl) (fun _ _ _ h => h) (Or.inl ⟨by rfl, ?_⟩) HH.out ?_ ?_
   rotate_left
   ·rintro w_ s
    obtain ⟨a0, b0, a1, b1, a9, b9, a10, b10, a11, b11, a12, b12⟩ := GR.out w_ s
    go_simp
    with_reducible rfl
   rotate_left
   ·simp only [Act.put, List.setIfInBounds_toArray, List.set_cons_zero, List.set_cons_succ, i64_w, i32_w]
    rfl
   iterate 2
    refine seqp_ (v := ?_) (a' := ?_) HSQ.out rfl rfl rfl (fun _ _ _ h => h) (Or.inl ⟨by rfl, ?_⟩) ?_ ?_
    rotate_left
    ·intro w_
     go_simp
     with_reducible rfl
    rotate_left
    ·simp only [Act.put, List.setIfInBounds_toArray, List.set_cons_zero, List.set_cons_succ, i64_w, i32_w]
     rfl
  iterate 2
   iterate 2
    refine seqp_ (v := ?_) (a' := ?_) HSQ.out rfl rfl rfl (fun _ _ _ h => h) (Or.inl ⟨by rfl, ?_⟩) ?_ ?_
    rotate_left
    ·intro w_
     go_simp
     with_reducible rfl
    rotate_left
    ·simp only [Act.put, List.setIfInBounds_toArray, List.set_cons_zero, List.set_cons_succ, i64_w, i32_w]
     rfl
   refine seqt_ (v := ?_) (a' := ?_) HSQ.out rfl rfl rfl (by kernel_rfl) (fun _ _ _ h => h) (Or.inl ⟨by rfl, ?_⟩) HH.out ?_ ?_
   rotate_left
   ·rintro w_ s
    obtain ⟨a0, b0, a1, b1, a9, b9, a10, b10, a11, b11, a12, b12⟩ := GR.out w_ s
    go_simp
    with_reducible rfl
   rotate_left
   ·simp only [Act.put, List.setIfInBounds_toArray, List.set_cons_zero, List.set_cons_succ, i64_w, i32_w]
    rfl
   refine seqp_ (v := ?_) (a' := ?_) HSQ.out rfl rfl rfl (fun _ _ _ h => h) (Or.inl ⟨by rfl, ?_⟩) ?_ ?_
   rotate_left
   ·intro w_
    go_simp
    with_reducible rfl
   rotate_left
   ·simp only [Act.put, List.setIfInBounds_toArray, List.set_cons_zero, List.set_cons_succ, i64_w, i32_w]
    rfl
   refine seqt_ (v := ?_) (a' := ?_) HSQ.out rfl rfl rfl (by kernel_rfl) (fun _ _ _ h => h) (Or.inl ⟨by rfl, ?_⟩) HH.out ?_ ?_
   rotate_left
   ·rintro w_ s
    obtain ⟨a0, b0, a1, b1, a9, b9, a10, b10, a11, b11, a12, b12⟩ := GR.out w_ s
    go_simp
    with_reducible rfl
   rotate_left
   ·simp only [Act.put, List.setIfInBounds_toArray, List.set_cons_zero, List.set_cons_succ, i64_w, i32_w]
    rfl
   iterate 2
    refine seqp_ (v := ?_) (a' := ?_) HSQ.out rfl rfl rfl (fun _ _ _ h => h) (Or.inl ⟨by rfl, ?_⟩) ?_ ?_
    rotate_left
    ·intro w_
     go_simp
     with_reducible rfl
    rotate_left
    ·simp only [Act.put, List.setIfInBounds_toArray, List.set_cons_zero, List.set_cons_succ, i64_w, i32_w]
     rfl
  refine seqp_ (v := ?_) (a' := ?_) HSQ.out rfl rfl rfl (fun _ _ _ h => h) (Or.inl ⟨by rfl, ?_⟩) ?_ ?_
  rotate_left
  ·intro w_
   go_simp
   with_reducible rfl
  rotate_left
  ·simp only [Act.put, List.setIfInBounds_toArray, List.set_cons_zero, List.set_cons_succ, i64_w, i32_w]
   rfl
  iterate 5 refine seqs_ HSQ.out rfl rfl rfl (fun _ _ _ h => h) (by rfl) (by rfl) ?_
  iterate 2
   refine seqp_ (v := ?_) (a' := ?_) HSQ.out rfl rfl rfl (fun _ _ _ h => h) (Or.inl ⟨by rfl, ?_⟩) ?_ ?_
   rotate_left
   ·intro w_
    go_simp
    with_reducible rfl
   rotate_left
   ·simp only [Act.put, List.setIfInBounds_toArray, List.set_cons_zero, List.set_cons_succ, i64_w, i32_w]
    rfl
  iterate 5 refine seqs_ HSQ.out rfl rfl rfl (fun _ _ _ h => h) (by rfl) (by rfl) ?_
  iterate 2
   refine seqp_ (v := ?_) (a' := ?_) HSQ.out rfl rfl rfl (fun _ _ _ h => h) (Or.inl ⟨by rfl, ?_⟩) ?_ ?_
   rotate_left
   ·intro w_
    go_simp
    with_reducible rfl
   rotate_left
   ·simp only [Act.put, List.setIfInBounds_toArray, List.set_cons_zero, List.set_cons_succ, i64_w, i32_w]
    rfl
  iterate 6 refine seqs_ HSQ.out rfl rfl rfl (fun _ _ _ h => h) (by rfl) (by rfl) ?_
  refine seqp_ (v := ?_) (a' := ?_) HSQ.out rfl rfl rfl (fun _ _ _ h => h) (Or.inl ⟨by rfl, ?_⟩) ?_ ?_
  rotate_left
  ·intro w_
   go_simp
   with_reducible rfl
  rotate_left
  ·simp only [Act.put, List.setIfInBounds_toArray, List.set_cons_zero, List.set_cons_succ, i64_w, i32_w]
   rfl
  refine seqd_ HSQ.out ?_
  clear HSQ
  go_wp2_with fail
  go_ret
  exact ⟨ret_b (show sameB t u = false from by unfold sameB headB; simp only [h0, h1, h9, h10, Bool.true_and, Bool.false_and]), HW.out.trans (HH.out.mono HW.out.size)⟩
 have g10 : (t.f10 != u.f10) = false := by rw [bne_eq_false_iff_eq]; exact beq_iff_eq.mp h10
 rcases h11 : (t.f11 == u.f11) with _ | _
 ·as_aux_lemma =>
  have g11 : (t.f11 != u.f11) = true := by rw [bne_iff_ne]; exact beq_eq_false_iff_ne.mp h11
  refine start_ (n := 48) (S := fun w_ => Below w2.heap.size w2 w_) (ds := []) #[false, false, false, false, false, false, false, false, false, false, false, false, false, false, false, false, false, false, false, false, false, false, false, false, false, false, false, false, false, false, false, false, false, false, false, false, false, false, false, false, false, false, false, false, false, false, false, false] (by kernel_rfl) rfl rfl (drew_below w2) (fun hHeld => ?_)
  have HH := Aside0.mk hHeld
  clear hHeld
  generalize w2.drew = wv at HH ⊢
  refine seq_start (n := 48) [] (by kernel_rfl) (by rfl) (fun HSQ => ?_)
  iterate 2
   refine seqp_ (v := ?_) (a' := ?_) HSQ.out rfl rfl rfl (fun _ _ _ h => h) (Or.inl ⟨by rfl, ?_⟩) ?_ ?_
   rotate_left
   ·intro w_
    go_simp
    with_reducible rfl
   rotate_left
   ·simp only [Act.put, List.setIfInBounds_toArray, List.set_cons_zero, List.set_cons_succ, i64_w, i32_w]
    rfl
   refine seqt_ (v := ?_) (a' := ?_) HSQ.out rfl rfl rfl (by kernel_rfl) (fun _ _ _ h => h) (Or.inl ⟨by rfl, ?_⟩) HH.out ?_ ?_
   rotate_left
   ·rintro w_ s
    obtain ⟨a0, b0, a1, b1, a9, b9, a10, b10, a11, b11, a12, b12⟩ := GR.out w_ s
    go_simp
    with_reducible rfl
   rotate_left
   ·simp only [Act.put, List.setIfInBounds_toArray, List.set_cons_zero, List.set_cons_succ, i64_w, i32_w]
    rfl
   refine seqp_ (v := ?_) (a' := ?_) HSQ.out rfl rfl rfl (fun _ _ _ h => h) (Or.inl ⟨by rfl, ?_⟩) ?_ ?_
   rotate_left
   ·intro w_
    go_simp
    with_reducible rfl
   rotate_left
   ·simp only [Act.put, List.setIfInBounds_toArray, List.set_cons_zero, List.set_cons_succ, i64_w, i32_w]
    rfl
   refine seqt_ (v := ?_) (a' := ?_) HSQ.out rfl rfl rfl (by kernel_rfl) (fun _ _ _ h => h) (Or.inl ⟨by rfl, ?_⟩) HH.out ?_ ?_
   rotate_left
   ·rintro w_ s
    obtain ⟨a0, b0, a1, b1, a9, b9, a10, b10, a11, b11, a12, b12⟩ := GR.out w_ s
    go_simp
    with_reducible rfl
   rotate_left
   ·simp only [Act.put, List.setIfInBounds_toArray, List.set_cons_zero, List.set_cons_succ, i64_w, i32_w]
    rfl
   iterate 2
    refine seqp_ (v := ?_) (a' := ?_) HSQ.out rfl rfl rfl (fun _ _ _ h => h) (Or.inl ⟨by rfl, ?_⟩) ?_ ?_
    rotate_left
    ·intro w_
     go_simp
     with_reducible rfl
    rotate_left
    ·simp only [Act.put, List.setIfInBounds_toArray, List.set_cons_zero, List.set_cons_succ, i64_w, i32_w]
     rfl
  iterate 3
   iterate 2
    refine seqp_ (v := ?_) (a' := ?_) HSQ.out rfl rfl rfl (fun _ _ _ h => h) (Or.inl ⟨by rfl, ?_⟩) ?_ ?_
    rotate_left
    ·intro w_
     go_simp
     with_reducible rfl
    rotate_left
    ·simp only [Act.put, List.setIfInBounds_toArray, List.set_cons_zero, List.set_cons_succ, i64_w, i32_w]
     rfl
   refine seqt_ (v := ?_) (a' := ?_) HSQ.out rfl rfl rfl (by kernel_rfl) (fun _ _ _ h => h) (Or.inl ⟨by rfl, ?_⟩) HH.out ?_ ?_
   rotate_left
   ·rintro w_ s
    obtain ⟨a0, b0, a1, b1, a9, b9, a10, b10, a11, b11, a12, b12⟩ := GR.out w_ s
    go_simp
    with_reducible rfl
   rotate_left
   ·simp only [Act.put, List.setIfInBounds_toArray, List.set_cons_zero, List.set_cons_succ, i64_w, i32_w]
    rfl
   refine seqp_ (v := ?_) (a' := ?_) HSQ.out rfl rfl rfl (fun _ _ _ h => h) (Or.inl ⟨by rfl, ?_⟩) ?_ ?_
   rotate_left
   ·intro w_
    go_simp
    with_reducible rfl
   rotate_left
   ·simp only [Act.put, List.setIfInBounds_toArray, List.set_cons_zero, List.set_cons_succ, i64_w, i32_w]
    rfl
   refine seqt_ (v := ?_) (a' := ?_) HSQ.out rfl rfl rfl (by kernel_rfl) (fun _ _ _ h => h) (Or.inl ⟨by rfl, ?_⟩) HH.out ?_ ?_
   rotate_left
   ·rintro w_ s
    obtain ⟨a0, b0, a1, b1, a9, b9, a10, b10, a11, b11, a12, b12⟩ := GR.out w_ s
    go_simp
    with_reducible rfl
   rotate_left
   ·simp only [Act.put, List.setIfInBounds_toArray, List.set_cons_zero, List.set_cons_succ, i64_w, i32_w]
    rfl
   iterate 2
    refine seqp_ (v := ?_) (a' := ?_) HSQ.out rfl rfl rfl (fun _ _ _ h => h) (Or.inl ⟨by rfl, ?_⟩) ?_ ?_
    rotate_left
    ·intro w_
     go_simp
     with_reducible rfl
    rotate_left
    ·simp only [Act.put, List.setIfInBounds_toArray, List.set_cons_zero, List.set_cons_succ, i64_w, i32_w]
     rfl
  refine seqp_ (v := ?_) (a' := ?_) HSQ.out rfl rfl rfl (fun _ _ _ h => h) (Or.inl ⟨by rfl, ?_⟩) ?_ ?_
  rotate_left
  ·intro w_
   go_simp
   with_reducible rfl
  rotate_left
  ·simp only [Act.put, List.setIfInBounds_toArray, List.set_cons_zero, List.set_cons_succ, i64_w, i32_w]
   rfl
  iterate 5 refine seqs_ HSQ.out rfl rfl rfl (fun _ _ _ h => h) (by rfl) (by rfl) ?_
  iterate 2
   refine seqp_ (v := ?_) (a' := ?_) HSQ.out rfl rfl rfl (fun _ _ _ h => h) (Or.inl ⟨by rfl, ?_⟩) ?_ ?_
   rotate_left
   ·intro w_
    go_simp
    with_reducible rfl
   rotate_left
   ·simp only [Act.put, List.setIfInBounds_toArray, List.set_cons_zero, List.set_cons_succ, i64_w, i32_w]
    rfl
  iterate 6 refine seqs_ HSQ.out rfl rfl rfl (fun _ _ _ h => h) (by rfl) (by rfl) ?_
  refine seqp_ (v := ?_) (a' := ?_) HSQ.out rfl rfl rfl (fun _ _ _ h => h) (Or.inl ⟨by rfl, ?_⟩) ?_ ?_
  rotate_left
  ·intro w_
   go_simp
   with_reducible rfl
  rotate_left
  ·simp only [Act.put, List.setIfInBounds_toArray, List.set_cons_zero, List.set_cons_succ, i64_w, i32_w]
   rfl
  refine seqd_ HSQ.out ?_
  clear HSQ
  go_wp2_with fail
  go_ret
  exact ⟨ret_b (show sameB t u = false from by unfold sameB headB; simp only [h0, h1, h9, h10, h11, Bool.true_and, Bool.false_and]), HW.out.trans (HH.out.mono HW.out.size)⟩
 have g11 : (t.f11 != u.f11) = false := by rw [bne_eq_false_iff_eq]; exact beq_iff_eq.mp h11
 rcases h12 : (t.f12 == u.f12) with _ | _
 ·as_aux_lemma =>
  have g12 : (t.f12 != u.f12) = true := by rw [bne_iff_ne]; exact beq_eq_false_iff_ne.mp h12
  refine start_ (n := 48) (S := fun w_ => Below w2.heap.size w2 w_) (ds := []) #[false, false, false, false, false, false, false, false, false, false, false, false, false, false, false, false, false, false, false, false, false, false, false, false, false, false, false, false, false, false, false, false, false, false, false, false, false, false, false, false, false, false, false, false, false, false, false, false] (by kernel_rfl) rfl rfl (drew_below w2) (fun hHeld => ?_)
  have HH := Aside0.mk hHeld
  clear hHeld
  generalize w2.drew = wv at HH ⊢
  refine seq_start (n := 48) [] (by kernel_rfl) (by rfl) (fun HSQ => ?_)
  iterate 2
   refine seqp_ (v := ?_) (a' := ?_) HSQ.out rfl rfl rfl (fun _ _ _ h => h) (Or.inl ⟨by rfl, ?_⟩) ?_ ?_
   rotate_left
   ·intro w_
    go_simp
    with_reducible rfl
   rotate_left
   ·simp only [Act.put, List.setIfInBounds_toArray, List.set_cons_zero, List.set_cons_succ, i64_w, i32_w]
    rfl
   refine seqt_ (v := ?_) (a' := ?_) HSQ.out rfl rfl rfl (by kernel_rfl) (fun _ _ _ h => h) (Or.inl ⟨by rfl, ?_⟩) HH.out ?_ ?_
   rotate_left
   ·rintro w_ s
    obtain ⟨a0, b0, a1, b1, a9, b9, a10, b10, a11, b11, a12, b12⟩ := GR.out w_ s
    go_simp
    with_reducible rfl
   rotate_left
   ·simp only [Act.put, List.setIfInBounds_toArray, List.set_cons_zero, List.set_cons_succ, i64_w, i32_w]
    rfl
   refine seqp_ (v := ?_) (a' := ?_) HSQ.out rfl rfl rfl (fun _ _ _ h => h) (Or.inl ⟨by rfl, ?_⟩) ?_ ?_
   rotate_left
   ·intro w_
    go_simp
    with_reducible rfl
   rotate_left
   ·simp only [Act.put, List.setIfInBounds_toArray, List.set_cons_zero, List.set_cons_succ, i64_w, i32_w]
    rfl
   refine seqt_ (v := ?_) (a' := ?_) HSQ.out rfl rfl rfl (by kernel_rfl) (fun _ _ _ h => h) (Or.inl ⟨by rfl, ?_⟩) HH.out ?_ ?_
   rotate_left
   ·rintro w_ s
    obtain ⟨a0, b0, a1, b1, a9, b9, a10, b10, a11, b11, a12, b12⟩ := GR.out w_ s
    go_simp
    with_reducible rfl
   rotate_left
   ·simp only [Act.put, List.setIfInBounds_toArray, List.set_cons_zero, List.set_cons_succ, i64_w, i32_w]
    rfl
   iterate 2
    refine seqp_ (v := ?_) (a' := ?_) HSQ.out rfl rfl rfl (fun _ _ _ h => h) (Or.inl ⟨by rfl, ?_⟩) ?_ ?_
    rotate_left
    ·intro w_
     go_simp
     with_reducible rfl
    rotate_left
    ·simp only [Act.put, List.setIfInBounds_toArray, List.set_cons_zero, List.set_cons_succ, i64_w, i32_w]
     rfl
  iterate 4
   iterate 2
    refine seqp_ (v := ?_) (a' := ?_) HSQ.out rfl rfl rfl (fun _ _ _ h => h) (Or.inl ⟨by rfl, ?_⟩) ?_ ?_
    rotate_left
    ·intro w_
     go_simp
     with_reducible rfl
    rotate_left
    ·simp only [Act.put, List.setIfInBounds_toArray, List.set_cons_zero, List.set_cons_succ, i64_w, i32_w]
     rfl
   refine seqt_ (v := ?_) (a' := ?_) HSQ.out rfl rfl rfl (by kernel_rfl) (fun _ _ _ h => h) (Or.inl ⟨by rfl, ?_⟩) HH.out ?_ ?_
   rotate_left
   ·rintro w_ s
    obtain ⟨a0, b0, a1, b1, a9, b9, a10, b10, a11, b11, a12, b12⟩ := GR.out w_ s
    go_simp
    with_reducible rfl
   rotate_left
   ·simp only [Act.put, List.setIfInBounds_toArray, List.set_cons_zero, List.set_cons_succ, i64_w, i32_w]
    rfl
   refine seqp_ (v := ?_) (a' := ?_) HSQ.out rfl rfl rfl (fun _ _ _ h => h) (Or.inl ⟨by rfl, ?_⟩) ?_ ?_
   rotate_left
   ·intro w_
    go_simp
    with_reducible rfl
   rotate_left
   ·simp only [Act.put, List.setIfInBounds_toArray, List.set_cons_zero, List.set_cons_succ, i64_w, i32_w]
    rfl
   refine seqt_ (v := ?_) (a' := ?_) HSQ.out rfl rfl rfl (by kernel_rfl) (fun _ _ _ h => h) (Or.inl ⟨by rfl, ?_⟩) HH.out ?_ ?_
   rotate_left
   ·rintro w_ s
    obtain ⟨a0, b0, a1, b1, a9, b9, a10, b10, a11, b11, a12, b12⟩ := GR.out w_ s
    go_simp
    with_reducible rfl
   rotate_left
   ·simp only [Act.put, List.setIfInBounds_toArray, List.set_cons_zero, List.set_cons_succ, i64_w, i32_w]
    rfl
   iterate 2
    refine seqp_ (v := ?_) (a' := ?_) HSQ.out rfl rfl rfl (fun _ _ _ h => h) (Or.inl ⟨by rfl, ?_⟩) ?_ ?_
    rotate_left
    ·intro w_
     go_simp
     with_reducible rfl
    rotate_left
    ·simp only [Act.put, List.setIfInBounds_toArray, List.set_cons_zero, List.set_cons_succ, i64_w, i32_w]
     rfl
  refine seqp_ (v := ?_) (a' := ?_) HSQ.out rfl rfl rfl (fun _ _ _ h => h) (Or.inl ⟨by rfl, ?_⟩) ?_ ?_
  rotate_left
  ·intro w_
   go_simp
   with_reducible rfl
  rotate_left
  ·simp only [Act.put, List.setIfInBounds_toArray, List.set_cons_zero, List.set_cons_succ, i64_w, i32_w]
   rfl
  iterate 6 refine seqs_ HSQ.out rfl rfl rfl (fun _ _ _ h => h) (by rfl) (by rfl) ?_
  refine seqp_ (v := ?_) (a' := ?_) HSQ.out rfl rfl rfl (fun _ _ _ h => h) (Or.inl ⟨by rfl, ?_⟩) ?_ ?_
  rotate_left
  ·intro w_
   go_simp
   with_reducible rfl
  rotate_left
  ·simp only [Act.put, List.setIfInBounds_toArray, List.set_cons_zero, List.set_cons_succ, i64_w, i32_w]
   rfl
  refine seqd_ HSQ.out ?_
  clear HSQ
  go_wp2_with fail
  go_ret
  exact ⟨ret_b (show sameB t u = false from by unfold sameB headB; simp only [h0, h1, h9, h10, h11, h12, Bool.true_and, Bool.false_and]), HW.out.trans (HH.out.mono HW.out.size)⟩
 have g12 : (t.f12 != u.f12) = false := by rw [bne_eq_false_iff_eq]; exact beq_iff_eq.mp h12
 have HH6 := Aside0.mk (show headB t u = true from by unfold headB; simp only [h0, h1, h9, h10, h11, h12, Bool.true_and])
 rcases hn : eqL eqI (cntsL t) (cntsL u) with _ | _
 ·as_aux_lemma =>
  skip
  refine start_ (n := 48) (S := fun w_ => Below w2.heap.size w2 w_) (ds := []) #[false, false, false, false, false, false, false, false, false, false, false, false, false, false, false, false, false, false, false, false, false, false, false, false, false, false, false, false, false, false, false, false, false, false, false, false, false, false, false, false, false, false, false, false, false, false, false, false] (by kernel_rfl) rfl rfl (drew_below w2) (fun hHeld => ?_)
  have HH := Aside0.mk hHeld
  clear hHeld
  generalize w2.drew = wv at HH ⊢
  refine seq_start (n := 48) [] (by kernel_rfl) (by rfl) (fun HSQ => ?_)
  iterate 2
   refine seqp_ (v := ?_) (a' := ?_) HSQ.out rfl rfl rfl (fun _ _ _ h => h) (Or.inl ⟨by rfl, ?_⟩) ?_ ?_
   rotate_left
   ·intro w_
    go_simp
    with_reducible rfl
   rotate_left
   ·simp only [Act.put, List.setIfInBounds_toArray, List.set_cons_zero, List.set_cons_succ, i64_w, i32_w]
    rfl
   refine seqt_ (v := ?_) (a' := ?_) HSQ.out rfl rfl rfl (by kernel_rfl) (fun _ _ _ h => h) (Or.inl ⟨by rfl, ?_⟩) HH.out ?_ ?_
   rotate_left
   ·rintro w_ s
    obtain ⟨a0, b0, a1, b1, a9, b9, a10, b10, a11, b11, a12, b12⟩ := GR.out w_ s
    go_simp
    with_reducible rfl
   rotate_left
   ·simp only [Act.put, List.setIfInBounds_toArray, List.set_cons_zero, List.set_cons_succ, i64_w, i32_w]
    rfl
   refine seqp_ (v := ?_) (a' := ?_) HSQ.out rfl rfl rfl (fun _ _ _ h => h) (Or.inl ⟨by rfl, ?_⟩) ?_ ?_
   rotate_left
   ·intro w_
    go_simp
    with_reducible rfl
   rotate_left
   ·simp only [Act.put, List.setIfInBounds_toArray, List.set_cons_zero, List.set_cons_succ, i64_w, i32_w]
    rfl
   refine seqt_ (v := ?_) (a' := ?_) HSQ.out rfl rfl rfl (by kernel_rfl) (fun _ _ _ h => h) (Or.inl ⟨by rfl, ?_⟩) HH.out ?_ ?_
   rotate_left
   ·rintro w_ s
    obtain ⟨a0, b0, a1, b1, a9, b9, a10, b10, a11, b11, a12, b12⟩ := GR.out w_ s
    go_simp
    with_reducible rfl
   rotate_left
   ·simp only [Act.put, List.setIfInBounds_toArray, List.set_cons_zero, List.set_cons_succ, i64_w, i32_w]
    rfl
   iterate 2
    refine seqp_ (v := ?_) (a' := ?_) HSQ.out rfl rfl rfl (fun _ _ _ h => h) (Or.inl ⟨by rfl, ?_⟩) ?_ ?_
    rotate_left
    ·intro w_
     go_simp
     with_reducible rfl
    rotate_left
    ·simp only [Act.put, List.setIfInBounds_toArray, List.set_cons_zero, List.set_cons_succ, i64_w, i32_w]
     rfl
  iterate 4
   iterate 2
    refine seqp_ (v := ?_) (a' := ?_) HSQ.out rfl rfl rfl (fun _ _ _ h => h) (Or.inl ⟨by rfl, ?_⟩) ?_ ?_
    rotate_left
    ·intro w_
     go_simp
     with_reducible rfl
    rotate_left
    ·simp only [Act.put, List.setIfInBounds_toArray, List.set_cons_zero, List.set_cons_succ, i64_w, i32_w]
     rfl
   refine seqt_ (v := ?_) (a' := ?_) HSQ.out rfl rfl rfl (by kernel_rfl) (fun _ _ _ h => h) (Or.inl ⟨by rfl, ?_⟩) HH.out ?_ ?_
   rotate_left
   ·rintro w_ s
    obtain ⟨a0, b0, a1, b1, a9, b9, a10, b10, a11, b11, a12, b12⟩ := GR.out w_ s
    go_simp
    with_reducible rfl
   rotate_left
   ·simp only [Act.put, List.setIfInBounds_toArray, List.set_cons_zero, List.set_cons_succ, i64_w, i32_w]
    rfl
   refine seqp_ (v := ?_) (a' := ?_) HSQ.out rfl rfl rfl (fun _ _ _ h => h) (Or.inl ⟨by rfl, ?_⟩) ?_ ?_
   rotate_left
   ·intro w_
    go_simp
    with_reducible rfl
   rotate_left
   ·simp only [Act.put, List.setIfInBounds_toArray, List.set_cons_zero, List.set_cons_succ, i64_w, i32_w]
    rfl
   refine seqt_ (v := ?_) (a' := ?_) HSQ.out rfl rfl rfl (by kernel_rfl) (fun _ _ _ h => h) (Or.inl ⟨by rfl, ?_⟩) HH.out ?_ ?_
   rotate_left
   ·rintro w_ s
    obtain ⟨a0, b0, a1, b1, a9, b9, a10, b10, a11, b11, a12, b12⟩ := GR.out w_ s
    go_simp
    with_reducible rfl
   rotate_left
   ·simp only [Act.put, List.setIfInBounds_toArray, List.set_cons_zero, List.set_cons_succ, i64_w, i32_w]
    rfl
   iterate 2
    refine seqp_ (v := ?_) (a' := ?_) HSQ.out rfl rfl rfl (fun _ _ _ h => h) (Or.inl ⟨by rfl, ?_⟩) ?_ ?_
    rotate_left
    ·intro w_
     go_simp
     with_reducible rfl
    rotate_left
    ·simp only [Act.put, List.setIfInBounds_toArray, List.set_cons_zero, List.set_cons_succ, i64_w, i32_w]
     rfl
  refine seqp_ (v := ?_) (a' := ?_) HSQ.out rfl rfl rfl (fun _ _ _ h => h) (Or.inl ⟨by rfl, ?_⟩) ?_ ?_
  rotate_left
  ·intro w_
   go_simp
   with_reducible rfl
  rotate_left
  ·simp only [Act.put, List.setIfInBounds_toArray, List.set_cons_zero, List.set_cons_succ, i64_w, i32_w]
   rfl
  refine seqt_ (i := 41) (N := 57) (v := ?_) (a' := ?_) HSQ.out rfl rfl rfl (by kernel_rfl) (fun _ _ _ h => h) (Or.inl ⟨by rfl, ?_⟩) HH.out ?_ ?_
  rotate_left
  ·rintro w_ s
   refine run33 (HA.out.below s) (.tmp 2) ?_ ?_ <;> rfl
  rotate_left
  ·simp only [Act.put, List.setIfInBounds_toArray, List.set_cons_zero, List.set_cons_succ, i64_w, i32_w]
   rfl
  have HSQ0 := HSQ
  clear HSQ HSQ0
  refine take_ (i := 43) (N := some 59) (v := ?_) (a' := ?_) #[true, true, true, true, true, true, true, true, true, true, true, true, true, true, true, true, true, true, true, true, true, true, true, true, true, true, true, true, true, true, true, true, true, true, true, true, true, true, true, true, true, true, false, true, false, false, false, false] rfl rfl (by kernel_rfl) (fun _ _ _ h => h) (Or.inl ⟨by rfl, ?_⟩) HH.out ?_ ?_
  rotate_left
  ·rintro w_ s
   refine run33 (HB.out.below s) (.tmp 3) ?_ ?_ <;> rfl
  rotate_left
  ·simp only [Act.put, List.setIfInBounds_toArray, List.set_cons_zero, List.set_cons_succ, i64_w, i32_w]
   rfl
  refine one_ (i := 42) (N := some 58) #[true, true, true, true, true, true, true, true, true, true, true, true, true, true, true, true, true, true, true, true, true, true, true, true, true, true, true, true, true, true, true, true, true, true, true, true, true, true, true, true, true, true, true, true, false, false, false, false] rfl rfl (by kernel_rfl) (by decide) (fun K hK => ?_)
  refine goes_ Try.func55 (by kernel_rfl) rfl #[.agg #[.int .i64 t.f0, .int .i64 t.f1, .slice V.a2 t.f2.length V.k2, .slice V.a3 t.f3.length V.k3, .slice V.a4 t.f4.length V.k4, .slice V.a5 t.f5.length V.k5, .slice V.a6 t.f6.length V.k6, .slice V.a7 t.f7.length V.k7, .slice V.a8 t.f8.length V.k8, .int .i64 t.f9, .int .i64 t.f10, .int .i64 t.f11, .int .i64 t.f12]] (by rfl) rfl rfl (by first | rfl | (simp only [List.map_toArray, List.map_cons, List.map_nil]; rfl) | simp) ?_
  refine (rows_calls V t wv (HA.out.below HH.out).tb).mono ?_
  rintro e wb ⟨Ac, cc, rfl, C1, l1, B2⟩
  have HC1 := Aside0.mk C1
  have HL1 := Aside0.mk l1
  clear C1 l1
  refine ⟨_, rfl, ?_⟩
  have HH2 := Aside0.mk (HH.out.trans (B2.mono HH.out.size))
  clear HH B2
  have HH := HH2
  clear HH2
  refine hK.out _ _ HH.out (fun _ => ?_)
  clear hK K
  refine norm_ (a' := ?_) ?_ ?_
  rotate_left
  ·show Act.put _ (some 58) _ = _
   simp only [Act.put, List.setIfInBounds_toArray, List.set_cons_zero, List.set_cons_succ, i64_w, i32_w]
   rfl
  refine one_ (i := 44) (N := some 60) #[true, true, true, true, true, true, true, true, true, true, true, true, true, true, true, true, true, true, true, true, true, true, true, true, true, true, true, true, true, true, true, true, true, true, true, true, true, true, true, true, true, true, true, true, true, false, false, false] rfl rfl (by kernel_rfl) (by decide) (fun K hK => ?_)
  refine goes_ Try.func55 (by kernel_rfl) rfl #[.agg #[.int .i64 u.f0, .int .i64 u.f1, .slice U.a2 u.f2.length U.k2, .slice U.a3 u.f3.length U.k3, .slice U.a4 u.f4.length U.k4, .slice U.a5 u.f5.length U.k5, .slice U.a6 u.f6.length U.k6, .slice U.a7 u.f7.length U.k7, .slice U.a8 u.f8.length U.k8, .int .i64 u.f9, .int .i64 u.f10, .int .i64 u.f11, .int .i64 u.f12]] (by rfl) rfl rfl (by first | rfl | (simp only [List.map_toArray, List.map_cons, List.map_nil]; rfl) | simp) ?_
  refine (rows_calls U u wb (HB.out.below HH.out).tb).mono ?_
  rintro e wc ⟨Bc, dc, rfl, C1, l1, B2⟩
  have HC2 := Aside0.mk C1
  have HL2 := Aside0.mk l1
  replace HC1 := Aside0.mk (Kd.C_below HC1.out B2)
  clear C1 l1
  refine ⟨_, rfl, ?_⟩
  have HH2 := Aside0.mk (HH.out.trans (B2.mono HH.out.size))
  clear HH B2
  have HH := HH2
  clear HH2
  refine hK.out _ _ HH.out (fun _ => ?_)
  clear hK K
  refine norm_ (a' := ?_) ?_ ?_
  rotate_left
  ·show Act.put _ (some 60) _ = _
   simp only [Act.put, List.setIfInBounds_toArray, List.set_cons_zero, List.set_cons_succ, i64_w, i32_w]
   rfl
  refine one_ (i := 45) (N := some 61) #[true, true, true, true, true, true, true, true, true, true, true, true, true, true, true, true, true, true, true, true, true, true, true, true, true, true, true, true, true, true, true, true, true, true, true, true, true, true, true, true, true, true, true, true, true, true, false, false] rfl rfl (by kernel_rfl) (by decide) (fun K hK => ?_)
  refine goes_ Try.func54 (by kernel_rfl) rfl #[.slice Ac (cntsL t).length cc, .slice Bc (cntsL u).length dc] (by rfl) rfl rfl (by first | rfl | (simp only [List.map_toArray, List.map_cons, List.map_nil]; rfl) | simp) ?_
  refine (ints_calls Ac Bc cc dc (cntsL t) (cntsL u) wc HC1.out HC2.out HL1.out HL2.out).mono ?_
  rintro e wd ⟨rfl, B2⟩
  rw [hn]
  refine ⟨_, rfl, ?_⟩
  have HH2 := Aside0.mk (HH.out.trans (B2.mono HH.out.size))
  clear HH B2
  have HH := HH2
  clear HH2
  refine hK.out _ _ HH.out (fun _ => ?_)
  clear hK K
  refine norm_ (a' := ?_) ?_ ?_
  rotate_left
  ·show Act.put _ (some 61) _ = _
   simp only [Act.put, List.setIfInBounds_toArray, List.set_cons_zero, List.set_cons_succ, i64_w, i32_w]
   rfl
  refine pure_ (i := 46) (N := some 62) (v := ?_) (a' := ?_) #[true, true, true, true, true, true, true, true, true, true, true, true, true, true, true, true, true, true, true, true, true, true, true, true, true, true, true, true, true, true, true, true, true, true, true, true, true, true, true, true, true, true, true, true, true, true, true, false] rfl rfl (by kernel_rfl) (fun _ _ _ h => h) (Or.inl ⟨by rfl, ?_⟩) ?_ ?_
  rotate_left
  ·intro w_
   go_simp
   with_reducible rfl
  rotate_left
  ·simp only [Act.put, List.setIfInBounds_toArray, List.set_cons_zero, List.set_cons_succ, i64_w, i32_w]
   rfl
  refine pure_ (i := 47) (N := some 63) (v := ?_) (a' := ?_) #[true, true, true, true, true, true, true, true, true, true, true, true, true, true, true, true, true, true, true, true, true, true, true, true, true, true, true, true, true, true, true, true, true, true, true, true, true, true, true, true, true, true, true, true, true, true, true, true] rfl rfl (by kernel_rfl) (fun _ _ _ h => h) (Or.inl ⟨by rfl, ?_⟩) ?_ ?_
  rotate_left
  ·intro w_
   go_simp
   with_reducible rfl
  rotate_left
  ·simp only [Act.put, List.setIfInBounds_toArray, List.set_cons_zero, List.set_cons_succ, i64_w, i32_w]
   rfl
  refine done_ (by kernel_rfl) ?_
  go_wp2_with fail
  go_ret
  exact ⟨ret_b (show sameB t u = false from sameB_no (fun h => by subst h; rw [eqL_self] at hn; cases hn)), HW.out.trans (HH.out.mono HW.out.size)⟩
 have HLE := Aside0.mk (len_eq hn)
 refine start_ (n := 48) (S := fun w_ => Below w2.heap.size w2 w_) (ds := []) #[false, false, false, false, false, false, false, false, false, false, false, false, false, false, false, false, false, false, false, false, false, false, false, false, false, false, false, false, false, false, false, false, false, false, false, false, false, false, false, false, false, false, false, false, false, false, false, false] (by kernel_rfl) rfl rfl (drew_below w2) (fun hHeld => ?_)
 have HH := Aside0.mk hHeld
 clear hHeld
 generalize w2.drew = wv at HH ⊢
 refine seq_start (n := 48) [] (by kernel_rfl) (by rfl) (fun HSQ => ?_)
 iterate 2
  refine seqp_ (v := ?_) (a' := ?_) HSQ.out rfl rfl rfl (fun _ _ _ h => h) (Or.inl ⟨by rfl, ?_⟩) ?_ ?_
  rotate_left
  ·intro w_
   go_simp
   with_reducible rfl
  rotate_left
  ·simp only [Act.put, List.setIfInBounds_toArray, List.set_cons_zero, List.set_cons_succ, i64_w, i32_w]
   rfl
  refine seqt_ (v := ?_) (a' := ?_) HSQ.out rfl rfl rfl (by kernel_rfl) (fun _ _ _ h => h) (Or.inl ⟨by rfl, ?_⟩) HH.out ?_ ?_
  rotate_left
  ·rintro w_ s
   obtain ⟨a0, b0, a1, b1, a9, b9, a10, b10, a11, b11, a12, b12⟩ := GR.out w_ s
   go_simp
   with_reducible rfl
  rotate_left
  ·simp only [Act.put, List.setIfInBounds_toArray, List.set_cons_zero, List.set_cons_succ, i64_w, i32_w]
   rfl
  refine seqp_ (v := ?_) (a' := ?_) HSQ.out rfl rfl rfl (fun _ _ _ h => h) (Or.inl ⟨by rfl, ?_⟩) ?_ ?_
  rotate_left
  ·intro w_
   go_simp
   with_reducible rfl
  rotate_left
  ·simp only [Act.put, List.setIfInBounds_toArray, List.set_cons_zero, List.set_cons_succ, i64_w, i32_w]
   rfl
  refine seqt_ (v := ?_) (a' := ?_) HSQ.out rfl rfl rfl (by kernel_rfl) (fun _ _ _ h => h) (Or.inl ⟨by rfl, ?_⟩) HH.out ?_ ?_
  rotate_left
  ·rintro w_ s
   obtain ⟨a0, b0, a1, b1, a9, b9, a10, b10, a11, b11, a12, b12⟩ := GR.out w_ s
   go_simp
   with_reducible rfl
  rotate_left
  ·simp only [Act.put, List.setIfInBounds_toArray, List.set_cons_zero, List.set_cons_succ, i64_w, i32_w]
   rfl
  iterate 2
   refine seqp_ (v := ?_) (a' := ?_) HSQ.out rfl rfl rfl (fun _ _ _ h => h) (Or.inl ⟨by rfl, ?_⟩) ?_ ?_
   rotate_left
   ·intro w_
    go_simp
    with_reducible rfl
   rotate_left
   ·simp only [Act.put, List.setIfInBounds_toArray, List.set_cons_zero, List.set_cons_succ, i64_w, i32_w]
    rfl
 iterate 4
  iterate 2
   refine seqp_ (v := ?_) (a' := ?_) HSQ.out rfl rfl rfl (fun _ _ _ h => h) (Or.inl ⟨by rfl, ?_⟩) ?_ ?_
   rotate_left
   ·intro w_
    go_simp
    with_reducible rfl
   rotate_left
   ·simp only [Act.put, List.setIfInBounds_toArray, List.set_cons_zero, List.set_cons_succ, i64_w, i32_w]
    rfl
  refine seqt_ (v := ?_) (a' := ?_) HSQ.out rfl rfl rfl (by kernel_rfl) (fun _ _ _ h => h) (Or.inl ⟨by rfl, ?_⟩) HH.out ?_ ?_
  rotate_left
  ·rintro w_ s
   obtain ⟨a0, b0, a1, b1, a9, b9, a10, b10, a11, b11, a12, b12⟩ := GR.out w_ s
   go_simp
   with_reducible rfl
  rotate_left
  ·simp only [Act.put, List.setIfInBounds_toArray, List.set_cons_zero, List.set_cons_succ, i64_w, i32_w]
   rfl
  refine seqp_ (v := ?_) (a' := ?_) HSQ.out rfl rfl rfl (fun _ _ _ h => h) (Or.inl ⟨by rfl, ?_⟩) ?_ ?_
  rotate_left
  ·intro w_
   go_simp
   with_reducible rfl
  rotate_left
  ·simp only [Act.put, List.setIfInBounds_toArray, List.set_cons_zero, List.set_cons_succ, i64_w, i32_w]
   rfl
  refine seqt_ (v := ?_) (a' := ?_) HSQ.out rfl rfl rfl (by kernel_rfl) (fun _ _ _ h => h) (Or.inl ⟨by rfl, ?_⟩) HH.out ?_ ?_
  rotate_left
  ·rintro w_ s
   obtain ⟨a0, b0, a1, b1, a9, b9, a10, b10, a11, b11, a12, b12⟩ := GR.out w_ s
   go_simp
   with_reducible rfl
  rotate_left
  ·simp only [Act.put, List.setIfInBounds_toArray, List.set_cons_zero, List.set_cons_succ, i64_w, i32_w]
   rfl
  iterate 2
   refine seqp_ (v := ?_) (a' := ?_) HSQ.out rfl rfl rfl (fun _ _ _ h => h) (Or.inl ⟨by rfl, ?_⟩) ?_ ?_
   rotate_left
   ·intro w_
    go_simp
    with_reducible rfl
   rotate_left
   ·simp only [Act.put, List.setIfInBounds_toArray, List.set_cons_zero, List.set_cons_succ, i64_w, i32_w]
    rfl
 refine seqp_ (v := ?_) (a' := ?_) HSQ.out rfl rfl rfl (fun _ _ _ h => h) (Or.inl ⟨by rfl, ?_⟩) ?_ ?_
 rotate_left
 ·intro w_
  go_simp
  with_reducible rfl
 rotate_left
 ·simp only [Act.put, List.setIfInBounds_toArray, List.set_cons_zero, List.set_cons_succ, i64_w, i32_w]
  rfl
 refine seqt_ (i := 41) (N := 57) (v := ?_) (a' := ?_) HSQ.out rfl rfl rfl (by kernel_rfl) (fun _ _ _ h => h) (Or.inl ⟨by rfl, ?_⟩) HH.out ?_ ?_
 rotate_left
 ·rintro w_ s
  refine run33 (HA.out.below s) (.tmp 2) ?_ ?_ <;> rfl
 rotate_left
 ·simp only [Act.put, List.setIfInBounds_toArray, List.set_cons_zero, List.set_cons_succ, i64_w, i32_w]
  rfl
 have HSQ0 := HSQ
 clear HSQ HSQ0
 refine take_ (i := 43) (N := some 59) (v := ?_) (a' := ?_) #[true, true, true, true, true, true, true, true, true, true, true, true, true, true, true, true, true, true, true, true, true, true, true, true, true, true, true, true, true, true, true, true, true, true, true, true, true, true, true, true, true, true, false, true, false, false, false, false] rfl rfl (by kernel_rfl) (fun _ _ _ h => h) (Or.inl ⟨by rfl, ?_⟩) HH.out ?_ ?_
 rotate_left
 ·rintro w_ s
  refine run33 (HB.out.below s) (.tmp 3) ?_ ?_ <;> rfl
 rotate_left
 ·simp only [Act.put, List.setIfInBounds_toArray, List.set_cons_zero, List.set_cons_succ, i64_w, i32_w]
  rfl
 refine one_ (i := 42) (N := some 58) #[true, true, true, true, true, true, true, true, true, true, true, true, true, true, true, true, true, true, true, true, true, true, true, true, true, true, true, true, true, true, true, true, true, true, true, true, true, true, true, true, true, true, true, true, false, false, false, false] rfl rfl (by kernel_rfl) (by decide) (fun K hK => ?_)
 refine goes_ Try.func55 (by kernel_rfl) rfl #[.agg #[.int .i64 t.f0, .int .i64 t.f1, .slice V.a2 t.f2.length V.k2, .slice V.a3 t.f3.length V.k3, .slice V.a4 t.f4.length V.k4, .slice V.a5 t.f5.length V.k5, .slice V.a6 t.f6.length V.k6, .slice V.a7 t.f7.length V.k7, .slice V.a8 t.f8.length V.k8, .int .i64 t.f9, .int .i64 t.f10, .int .i64 t.f11, .int .i64 t.f12]] (by rfl) rfl rfl (by first | rfl | (simp only [List.map_toArray, List.map_cons, List.map_nil]; rfl) | simp) ?_
 refine (rows_calls V t wv (HA.out.below HH.out).tb).mono ?_
 rintro e wb ⟨Ac, cc, rfl, C1, l1, B2⟩
 have HC1 := Aside0.mk C1
 have HL1 := Aside0.mk l1
 clear C1 l1
 refine ⟨_, rfl, ?_⟩
 have HH2 := Aside0.mk (HH.out.trans (B2.mono HH.out.size))
 clear HH B2
 have HH := HH2
 clear HH2
 refine hK.out _ _ HH.out (fun _ => ?_)
 clear hK K
 refine norm_ (a' := ?_) ?_ ?_
 rotate_left
 ·show Act.put _ (some 58) _ = _
  simp only [Act.put, List.setIfInBounds_toArray, List.set_cons_zero, List.set_cons_succ, i64_w, i32_w]
  rfl
 refine one_ (i := 44) (N := some 60) #[true, true, true, true, true, true, true, true, true, true, true, true, true, true, true, true, true, true, true, true, true, true, true, true, true, true, true, true, true, true, true, true, true, true, true, true, true, true, true, true, true, true, true, true, true, false, false, false] rfl rfl (by kernel_rfl) (by decide) (fun K hK => ?_)
 refine goes_ Try.func55 (by kernel_rfl) rfl #[.agg #[.int .i64 u.f0, .int .i64 u.f1, .slice U.a2 u.f2.length U.k2, .slice U.a3 u.f3.length U.k3, .slice U.a4 u.f4.length U.k4, .slice U.a5 u.f5.length U.k5, .slice U.a6 u.f6.length U.k6, .slice U.a7 u.f7.length U.k7, .slice U.a8 u.f8.length U.k8, .int .i64 u.f9, .int .i64 u.f10, .int .i64 u.f11, .int .i64 u.f12]] (by rfl) rfl rfl (by first | rfl | (simp only [List.map_toArray, List.map_cons, List.map_nil]; rfl) | simp) ?_
 refine (rows_calls U u wb (HB.out.below HH.out).tb).mono ?_
 rintro e wc ⟨Bc, dc, rfl, C1, l1, B2⟩
 have HC2 := Aside0.mk C1
 have HL2 := Aside0.mk l1
 replace HC1 := Aside0.mk (Kd.C_below HC1.out B2)
 clear C1 l1
 refine ⟨_, rfl, ?_⟩
 have HH2 := Aside0.mk (HH.out.trans (B2.mono HH.out.size))
 clear HH B2
 have HH := HH2
 clear HH2
 refine hK.out _ _ HH.out (fun _ => ?_)
 clear hK K
 refine norm_ (a' := ?_) ?_ ?_
 rotate_left
 ·show Act.put _ (some 60) _ = _
  simp only [Act.put, List.setIfInBounds_toArray, List.set_cons_zero, List.set_cons_succ, i64_w, i32_w]
  rfl
 refine one_ (i := 45) (N := some 61) #[true, true, true, true, true, true, true, true, true, true, true, true, true, true, true, true, true, true, true, true, true, true, true, true, true, true, true, true, true, true, true, true, true, true, true, true, true, true, true, true, true, true, true, true, true, true, false, false] rfl rfl (by kernel_rfl) (by decide) (fun K hK => ?_)
 refine goes_ Try.func54 (by kernel_rfl) rfl #[.slice Ac (cntsL t).length cc, .slice Bc (cntsL u).length dc] (by rfl) rfl rfl (by first | rfl | (simp only [List.map_toArray, List.map_cons, List.map_nil]; rfl) | simp) ?_
 refine (ints_calls Ac Bc cc dc (cntsL t) (cntsL u) wc HC1.out HC2.out HL1.out HL2.out).mono ?_
 rintro e wd ⟨rfl, B2⟩
 rw [hn]
 refine ⟨_, rfl, ?_⟩
 have HH2 := Aside0.mk (HH.out.trans (B2.mono HH.out.size))
 clear HH B2
 have HH := HH2
 clear HH2
 refine hK.out _ _ HH.out (fun _ => ?_)
 clear hK K
 refine norm_ (a' := ?_) ?_ ?_
 rotate_left
 ·show Act.put _ (some 61) _ = _
  simp only [Act.put, List.setIfInBounds_toArray, List.set_cons_zero, List.set_cons_succ, i64_w, i32_w]
  rfl
 refine pure_ (i := 46) (N := some 62) (v := ?_) (a' := ?_) #[true, true, true, true, true, true, true, true, true, true, true, true, true, true, true, true, true, true, true, true, true, true, true, true, true, true, true, true, true, true, true, true, true, true, true, true, true, true, true, true, true, true, true, true, true, true, true, false] rfl rfl (by kernel_rfl) (fun _ _ _ h => h) (Or.inl ⟨by rfl, ?_⟩) ?_ ?_
 rotate_left
 ·intro w_
  go_simp
  with_reducible rfl
 rotate_left
 ·simp only [Act.put, List.setIfInBounds_toArray, List.set_cons_zero, List.set_cons_succ, i64_w, i32_w]
  rfl
 refine pure_ (i := 47) (N := some 63) (v := ?_) (a' := ?_) #[true, true, true, true, true, true, true, true, true, true, true, true, true, true, true, true, true, true, true, true, true, true, true, true, true, true, true, true, true, true, true, true, true, true, true, true, true, true, true, true, true, true, true, true, true, true, true, true] rfl rfl (by kernel_rfl) (fun _ _ _ h => h) (Or.inl ⟨by rfl, ?_⟩) ?_ ?_
 rotate_left
 ·intro w_
  go_simp
  with_reducible rfl
 rotate_left
 ·simp only [Act.put, List.setIfInBounds_toArray, List.set_cons_zero, List.set_cons_succ, i64_w, i32_w]
  rfl
 refine done_ (by kernel_rfl) ?_
 go_upto_region 3 with fail
 clear h0 g0 h1 g1 h9 g9 h10 g10 h11 g11 h12 g12 hn
 have HE := Aside0.mk (HW.out.trans (HH.out.mono HW.out.size))
 replace HA := Aside0.mk (HA.out.below HH.out)
 replace HB := Aside0.mk (HB.out.below HH.out)
 clear HC1 HC2 HL1 HL2 HH HW
 go_wp2_with fail
 go_loopg [5] t.f2.length (fun g i wr => ∃ k : Nat, k ≤ t.f2.length ∧ g = t.f2.length - k ∧ i = .int .i64 k ∧ Aside0 (∀ j, j < k → t.f2.getD j z69 = u.f2.getD j z69) ∧ Aside0 (Below w.heap.size w wr) ∧ Aside0 (At wr PP V t) ∧ Aside0 (At wr QQ U u))
 case atStart => exact ⟨0, by omega, rfl, rfl, ⟨fun j hj => by omega⟩, HE, HA, HB⟩
 case round =>
 clear HE HA HB
 obtain ⟨k, hk, rfl, rfl, HS, HE, HA, HB⟩ := hrel
 have a2 := HA.out.q2
 by_cases hlt : k < t.f2.length
 case pos => as_aux_lemma =>
  have hd : decide ((k : Int) < (t.f2.length : Int)) = true := decide_eq_true (by omega)
  have hly : k < u.f2.length := by have := HLE.out.1; omega
  have HLT := Aside0.mk hlt
  obtain ⟨x, ad, A6, c6, hx0, eA, HA0, l6, g6⟩ := task_at HA.out.tb.tk k hlt
  obtain ⟨y, ad2, B6, d6, hy0, eB, HB0, n6, m6⟩ := task_at HB.out.tb.tk k hly
  have EA := Aside0.mk eA
  have EB := Aside0.mk eB
  have HAX := Aside0.mk HA0
  have HAY := Aside0.mk HB0
  have HX0 := Aside0.mk hx0
  have HY0 := Aside0.mk hy0
  have HNE := Aside0.mk (show x ≠ y → t ≠ u from fun h e => h (by rw [← hx0, ← hy0, e]))
  have HGX := Aside0.mk g6
  have HGY := Aside0.mk m6
  have HLX := Aside0.mk l6
  have HLY := Aside0.mk n6
  clear g6 m6 l6 n6
  have hbd := HA.out.tb.bd.tk
  clear hx0 hy0 eA eB HA0 HB0
  go_upto_region 6 with fail
  clear a2
  refine start_ (n := 14) (S := fun w_ => Below wr.heap.size wr w_) (ds := []) #[false, false, false, false, false, false, false, false, false, false, false, false, false, false] (by kernel_rfl) rfl rfl (drew_below wr) (fun hHeld => ?_)
  have HH := Aside0.mk hHeld
  clear hHeld
  generalize wr.drew = wv at HH ⊢
  refine seq_start (n := 14) [] (by kernel_rfl) (by rfl) (fun HSQ => ?_)
  refine seqp_ (v := ?_) (a' := ?_) HSQ.out rfl rfl rfl (fun _ _ _ h => h) (Or.inl ⟨by rfl, ?_⟩) ?_ ?_
  rotate_left
  ·intro w_
   go_simp
   with_reducible rfl
  rotate_left
  ·simp only [Act.put, List.setIfInBounds_toArray, List.set_cons_zero, List.set_cons_succ, i64_w, i32_w]
   rfl
  refine seqt_ (v := ?_) (a' := ?_) HSQ.out rfl rfl rfl (by kernel_rfl) (fun _ _ _ h => h) (Or.inl ⟨by rfl, ?_⟩) HH.out ?_ ?_
  rotate_left
  ·rintro w_ s
   have a2 := (HA.out.below s).q2; rw [EA.out] at a2; have b2 := (HB.out.below s).q2; rw [EB.out] at b2
   go_simp
   with_reducible rfl
  rotate_left
  ·simp only [Act.put, List.setIfInBounds_toArray, List.set_cons_zero, List.set_cons_succ, i64_w, i32_w]
   rfl
  iterate 2
   refine seqp_ (v := ?_) (a' := ?_) HSQ.out rfl rfl rfl (fun _ _ _ h => h) (Or.inl ⟨by rfl, ?_⟩) ?_ ?_
   rotate_left
   ·intro w_
    go_simp
    with_reducible rfl
   rotate_left
   ·simp only [Act.put, List.setIfInBounds_toArray, List.set_cons_zero, List.set_cons_succ, i64_w, i32_w]
    rfl
  refine seqt_ (i := 4) (N := 75) (v := ?_) (a' := ?_) HSQ.out rfl rfl rfl (by kernel_rfl) (fun _ _ _ h => h) (Or.inl ⟨by rfl, ?_⟩) HH.out ?_ ?_
  rotate_left
  ·rintro w_ s
   refine run69 (HAX.out.below s) (.tmp 74) ?_ ?_ <;> rfl
  rotate_left
  ·simp only [Act.put, List.setIfInBounds_toArray, List.set_cons_zero, List.set_cons_succ, i64_w, i32_w]
   rfl
  refine seqp_ (v := ?_) (a' := ?_) HSQ.out rfl rfl rfl (fun _ _ _ h => h) (Or.inl ⟨by rfl, ?_⟩) ?_ ?_
  rotate_left
  ·intro w_
   go_simp
   with_reducible rfl
  rotate_left
  ·simp only [Act.put, List.setIfInBounds_toArray, List.set_cons_zero, List.set_cons_succ, i64_w, i32_w]
   rfl
  refine seqt_ (v := ?_) (a' := ?_) HSQ.out rfl rfl rfl (by kernel_rfl) (fun _ _ _ h => h) (Or.inl ⟨by rfl, ?_⟩) HH.out ?_ ?_
  rotate_left
  ·rintro w_ s
   have a2 := (HA.out.below s).q2; rw [EA.out] at a2; have b2 := (HB.out.below s).q2; rw [EB.out] at b2
   go_simp
   with_reducible rfl
  rotate_left
  ·simp only [Act.put, List.setIfInBounds_toArray, List.set_cons_zero, List.set_cons_succ, i64_w, i32_w]
   rfl
  iterate 2
   refine seqp_ (v := ?_) (a' := ?_) HSQ.out rfl rfl rfl (fun _ _ _ h => h) (Or.inl ⟨by rfl, ?_⟩) ?_ ?_
   rotate_left
   ·intro w_
    go_simp
    with_reducible rfl
   rotate_left
   ·simp only [Act.put, List.setIfInBounds_toArray, List.set_cons_zero, List.set_cons_succ, i64_w, i32_w]
    rfl
  refine seqt_ (i := 9) (N := 80) (v := ?_) (a' := ?_) HSQ.out rfl rfl rfl (by kernel_rfl) (fun _ _ _ h => h) (Or.inl ⟨by rfl, ?_⟩) HH.out ?_ ?_
  rotate_left
  ·rintro w_ s
   refine run69 (HAY.out.below s) (.tmp 79) ?_ ?_ <;> rfl
  rotate_left
  ·simp only [Act.put, List.setIfInBounds_toArray, List.set_cons_zero, List.set_cons_succ, i64_w, i32_w]
   rfl
  have HSQ0 := HSQ
  clear HSQ HSQ0
  refine two_ (i := 10) (j := 11) (Ni := some 6) (Nj := some 7) #[true, true, true, true, true, true, true, true, true, true, true, false, false, false] #[true, true, true, true, true, true, true, true, true, true, false, true, false, false] rfl rfl rfl rfl (by kernel_rfl) (by decide) (by decide) (fun K hK => ?_) (fun K hK => ?_)
  focus
   go_simp
   refine hK.out _ _ (HH.out.alloc HH.out.size _) (fun _ => ?_)
   clear hK K
   refine one_ (i := 11) (N := some 7) #[true, true, true, true, true, true, true, true, true, true, true, true, false, false] rfl rfl (by kernel_rfl) (by decide) (fun K hK => ?_)
   go_simp
   refine hK.out _ _ ((HH.out.alloc HH.out.size _).alloc (HH.out.alloc HH.out.size _).size _) (fun _ => ?_)
   clear hK K
   refine one_ (i := 12) (N := none) #[true, true, true, true, true, true, true, true, true, true, true, true, true, false] rfl rfl (by kernel_rfl) (by decide) (fun K hK => ?_)
   go_simp
   refine hK.out _ _ ((HH.out.alloc HH.out.size _).alloc (HH.out.alloc HH.out.size _).size _) (fun _ => ?_)
   clear hK K
   refine one_ (i := 13) (N := none) #[true, true, true, true, true, true, true, true, true, true, true, true, true, true] rfl rfl (by kernel_rfl) (by decide) (fun K hK => ?_)
   go_simp
   refine hK.out _ _ ((HH.out.alloc HH.out.size _).alloc (HH.out.alloc HH.out.size _).size _) (fun _ => ?_)
   clear hK K
   refine done_ (by kernel_rfl) ?_
   have hw2 := (Below.refl wv.heap.size wv).alloc (Nat.le_refl _) (.cells #[.int .i64 x.f0, .int .i64 x.f1, .bool x.f2, .int .i64 x.f3, .int .u32 x.f4, .int .i64 x.f5, .slice A6 x.f6.length c6, .int .u32 x.f7] 69) |>.alloc (by simp) (.cells #[.int .i64 y.f0, .int .i64 y.f1, .bool y.f2, .int .i64 y.f3, .int .u32 y.f4, .int .i64 y.f5, .slice B6 y.f6.length d6, .int .u32 y.f7] 69)
   have HHt := Aside0.mk (HH.out.trans (hw2.mono HH.out.size))
   have n0 : ((wv.alloc (.cells #[.int .i64 x.f0, .int .i64 x.f1, .bool x.f2, .int .i64 x.f3, .int .u32 x.f4, .int .i64 x.f5, .slice A6 x.f6.length c6, .int .u32 x.f7] 69)).alloc (.cells #[.int .i64 y.f0, .int .i64 y.f1, .bool y.f2, .int .i64 y.f3, .int .u32 y.f4, .int .i64 y.f5, .slice B6 y.f6.length d6, .int .u32 y.f7] 69)).heap[wv.heap.size]? = some (.cells #[.int .i64 x.f0, .int .i64 x.f1, .bool x.f2, .int .i64 x.f3, .int .u32 x.f4, .int .i64 x.f5, .slice A6 x.f6.length c6, .int .u32 x.f7] 69 (0, 0)) := by rw [heap_alloc_old _ _ (by simp)]; exact heap_alloc_new wv _
   have n1 : ((wv.alloc (.cells #[.int .i64 x.f0, .int .i64 x.f1, .bool x.f2, .int .i64 x.f3, .int .u32 x.f4, .int .i64 x.f5, .slice A6 x.f6.length c6, .int .u32 x.f7] 69)).alloc (.cells #[.int .i64 y.f0, .int .i64 y.f1, .bool y.f2, .int .i64 y.f3, .int .u32 y.f4, .int .i64 y.f5, .slice B6 y.f6.length d6, .int .u32 y.f7] 69)).heap[wv.heap.size + 1]? = some (.cells #[.int .i64 y.f0, .int .i64 y.f1, .bool y.f2, .int .i64 y.f3, .int .u32 y.f4, .int .i64 y.f5, .slice B6 y.f6.length d6, .int .u32 y.f7] 69 (0, 0)) := by have h1 := heap_alloc_new (wv.alloc (.cells #[.int .i64 x.f0, .int .i64 x.f1, .bool x.f2, .int .i64 x.f3, .int .u32 x.f4, .int .i64 x.f5, .slice A6 x.f6.length c6, .int .u32 x.f7] 69)) (.cells #[.int .i64 y.f0, .int .i64 y.f1, .bool y.f2, .int .i64 y.f3, .int .u32 y.f4, .int .i64 y.f5, .slice B6 y.f6.length d6, .int .u32 y.f7] 69); rw [World.size_alloc] at h1; exact h1
   have HT1 := Aside0.mk (show At69 _ ⟨wv.heap.size, 0, none⟩ x A6 c6 from ⟨fun j v hj => cell_of n0 (by simpa using hj)⟩)
   have HT2 := Aside0.mk (show At69 _ ⟨(wv.heap.size + 1), 0, none⟩ y B6 d6 from ⟨fun j v hj => cell_of n1 (by simpa using hj)⟩)
   clear n0 n1 hw2 HH
   generalize (wv.alloc (.cells #[.int .i64 x.f0, .int .i64 x.f1, .bool x.f2, .int .i64 x.f3, .int .u32 x.f4, .int .i64 x.f5, .slice A6 x.f6.length c6, .int .u32 x.f7] 69)).alloc (.cells #[.int .i64 y.f0, .int .i64 y.f1, .bool y.f2, .int .i64 y.f3, .int .u32 y.f4, .int .i64 y.f5, .slice B6 y.f6.length d6, .int .u32 y.f7] 69) = ww at *
   generalize (wv.heap.size + 1) = Q at *
   generalize wv.heap.size = P at *
  rotate_left
  focus
   go_simp
   refine hK.out _ _ (HH.out.alloc HH.out.size _) (fun _ => ?_)
   clear hK K
   refine one_ (i := 10) (N := some 6) #[true, true, true, true, true, true, true, true, true, true, true, true, false, false] rfl rfl (by kernel_rfl) (by decide) (fun K hK => ?_)
   go_simp
   refine hK.out _ _ ((HH.out.alloc HH.out.size _).alloc (HH.out.alloc HH.out.size _).size _) (fun _ => ?_)
   clear hK K
   refine one_ (i := 12) (N := none) #[true, true, true, true, true, true, true, true, true, true, true, true, true, false] rfl rfl (by kernel_rfl) (by decide) (fun K hK => ?_)
   go_simp
   refine hK.out _ _ ((HH.out.alloc HH.out.size _).alloc (HH.out.alloc HH.out.size _).size _) (fun _ => ?_)
   clear hK K
   refine one_ (i := 13) (N := none) #[true, true, true, true, true, true, true, true, true, true, true, true, true, true] rfl rfl (by kernel_rfl) (by decide) (fun K hK => ?_)
   go_simp
   refine hK.out _ _ ((HH.out.alloc HH.out.size _).alloc (HH.out.alloc HH.out.size _).size _) (fun _ => ?_)
   clear hK K
   refine done_ (by kernel_rfl) ?_
   have hw2 := (Below.refl wv.heap.size wv).alloc (Nat.le_refl _) (.cells #[.int .i64 y.f0, .int .i64 y.f1, .bool y.f2, .int .i64 y.f3, .int .u32 y.f4, .int .i64 y.f5, .slice B6 y.f6.length d6, .int .u32 y.f7] 69) |>.alloc (by simp) (.cells #[.int .i64 x.f0, .int .i64 x.f1, .bool x.f2, .int .i64 x.f3, .int .u32 x.f4, .int .i64 x.f5, .slice A6 x.f6.length c6, .int .u32 x.f7] 69)
   have HHt := Aside0.mk (HH.out.trans (hw2.mono HH.out.size))
   have n0 : ((wv.alloc (.cells #[.int .i64 y.f0, .int .i64 y.f1, .bool y.f2, .int .i64 y.f3, .int .u32 y.f4, .int .i64 y.f5, .slice B6 y.f6.length d6, .int .u32 y.f7] 69)).alloc (.cells #[.int .i64 x.f0, .int .i64 x.f1, .bool x.f2, .int .i64 x.f3, .int .u32 x.f4, .int .i64 x.f5, .slice A6 x.f6.length c6, .int .u32 x.f7] 69)).heap[wv.heap.size]? = some (.cells #[.int .i64 y.f0, .int .i64 y.f1, .bool y.f2, .int .i64 y.f3, .int .u32 y.f4, .int .i64 y.f5, .slice B6 y.f6.length d6, .int .u32 y.f7] 69 (0, 0)) := by rw [heap_alloc_old _ _ (by simp)]; exact heap_alloc_new wv _
   have n1 : ((wv.alloc (.cells #[.int .i64 y.f0, .int .i64 y.f1, .bool y.f2, .int .i64 y.f3, .int .u32 y.f4, .int .i64 y.f5, .slice B6 y.f6.length d6, .int .u32 y.f7] 69)).alloc (.cells #[.int .i64 x.f0, .int .i64 x.f1, .bool x.f2, .int .i64 x.f3, .int .u32 x.f4, .int .i64 x.f5, .slice A6 x.f6.length c6, .int .u32 x.f7] 69)).heap[wv.heap.size + 1]? = some (.cells #[.int .i64 x.f0, .int .i64 x.f1, .bool x.f2, .int .i64 x.f3, .int .u32 x.f4, .int .i64 x.f5, .slice A6 x.f6.length c6, .int .u32 x.f7] 69 (0, 0)) := by have h1 := heap_alloc_new (wv.alloc (.cells #[.int .i64 y.f0, .int .i64 y.f1, .bool y.f2, .int .i64 y.f3, .int .u32 y.f4, .int .i64 y.f5, .slice B6 y.f6.length d6, .int .u32 y.f7] 69)) (.cells #[.int .i64 x.f0, .int .i64 x.f1, .bool x.f2, .int .i64 x.f3, .int .u32 x.f4, .int .i64 x.f5, .slice A6 x.f6.length c6, .int .u32 x.f7] 69); rw [World.size_alloc] at h1; exact h1
   have HT1 := Aside0.mk (show At69 _ ⟨(wv.heap.size + 1), 0, none⟩ x A6 c6 from ⟨fun j v hj => cell_of n1 (by simpa using hj)⟩)
   have HT2 := Aside0.mk (show At69 _ ⟨wv.heap.size, 0, none⟩ y B6 d6 from ⟨fun j v hj => cell_of n0 (by simpa using hj)⟩)
   clear n0 n1 hw2 HH
   generalize (wv.alloc (.cells #[.int .i64 y.f0, .int .i64 y.f1, .bool y.f2, .int .i64 y.f3, .int .u32 y.f4, .int .i64 y.f5, .slice B6 y.f6.length d6, .int .u32 y.f7] 69)).alloc (.cells #[.int .i64 x.f0, .int .i64 x.f1, .bool x.f2, .int .i64 x.f3, .int .u32 x.f4, .int .i64 x.f5, .slice A6 x.f6.length c6, .int .u32 x.f7] 69) = ww at *
   generalize (wv.heap.size + 1) = P at *
   generalize wv.heap.size = Q at *
  rotate_left
  all_goals
   have HE3 := Aside0.mk (HE.out.trans (HHt.out.mono HE.out.size))
   have HA3 := Aside0.mk (HA.out.below HHt.out)
   have HB3 := Aside0.mk (HB.out.below HHt.out)
   have HGX3 := Aside0.mk (Kd.C_below HGX.out HHt.out)
   have HGY3 := Aside0.mk (Kd.C_below HGY.out HHt.out)
   clear HE HA HB HGX HGY HHt
   have t0 := HT1.out.g0
   have v0 := HT2.out.g0
   have t1 := HT1.out.g1
   have v1 := HT2.out.g1
   have t2 := HT1.out.g2
   have v2 := HT2.out.g2
   have t3 := HT1.out.g3
   have v3 := HT2.out.g3
   have t4 := HT1.out.g4
   have v4 := HT2.out.g4
   have t5 := HT1.out.g5
   have v5 := HT2.out.g5
   have t6 := HT1.out.g6
   have v6 := HT2.out.g6
   have t7 := HT1.out.g7
   have v7 := HT2.out.g7
   rcases h0 : (x.f0 == y.f0) with _ | _
   ·have g0 : (x.f0 != y.f0) = true := by rw [bne_iff_ne]; exact beq_eq_false_iff_ne.mp h0
    go_wp2_with fail
    go_ret
    exact ⟨ret_b (sameB_no (HNE.out (fun e => by subst e; simp at h0))), HE3.out⟩
   have g0 : (x.f0 != y.f0) = false := by rw [bne_eq_false_iff_eq]; exact beq_iff_eq.mp h0
   rcases h1 : (x.f1 == y.f1) with _ | _
   ·have g1 : (x.f1 != y.f1) = true := by rw [bne_iff_ne]; exact beq_eq_false_iff_ne.mp h1
    go_wp2_with fail
    go_ret
    exact ⟨ret_b (sameB_no (HNE.out (fun e => by subst e; simp at h1))), HE3.out⟩
   have g1 : (x.f1 != y.f1) = false := by rw [bne_eq_false_iff_eq]; exact beq_iff_eq.mp h1
   rcases h2 : (x.f2 == y.f2) with _ | _
   ·have g2 : (x.f2 != y.f2) = true := by rw [bne_iff_ne]; exact beq_eq_false_iff_ne.mp h2
    go_wp2_with fail
    go_ret
    exact ⟨ret_b (sameB_no (HNE.out (fun e => by subst e; simp at h2))), HE3.out⟩
   have g2 : (x.f2 != y.f2) = false := by rw [bne_eq_false_iff_eq]; exact beq_iff_eq.mp h2
   rcases h3 : (x.f3 == y.f3) with _ | _
   ·have g3 : (x.f3 != y.f3) = true := by rw [bne_iff_ne]; exact beq_eq_false_iff_ne.mp h3
    go_wp2_with fail
    go_ret
    exact ⟨ret_b (sameB_no (HNE.out (fun e => by subst e; simp at h3))), HE3.out⟩
   have g3 : (x.f3 != y.f3) = false := by rw [bne_eq_false_iff_eq]; exact beq_iff_eq.mp h3
   rcases h4 : (x.f4 == y.f4) with _ | _
   ·have g4 : (x.f4 != y.f4) = true := by rw [bne_iff_ne]; exact beq_eq_false_iff_ne.mp h4
    go_wp2_with fail
    go_ret
    exact ⟨ret_b (sameB_no (HNE.out (fun e => by subst e; simp at h4))), HE3.out⟩
   have g4 : (x.f4 != y.f4) = false := by rw [bne_eq_false_iff_eq]; exact beq_iff_eq.mp h4
   rcases h5 : (x.f5 == y.f5) with _ | _
   ·have g5 : (x.f5 != y.f5) = true := by rw [bne_iff_ne]; exact beq_eq_false_iff_ne.mp h5
    go_wp2_with fail
    go_ret
    exact ⟨ret_b (sameB_no (HNE.out (fun e => by subst e; simp at h5))), HE3.out⟩
   have g5 : (x.f5 != y.f5) = false := by rw [bne_eq_false_iff_eq]; exact beq_iff_eq.mp h5
   go_wp2_with fail
   refine (ints_calls A6 B6 c6 d6 x.f6 y.f6 ww HGX3.out HGY3.out HLX.out HLY.out).mono ?_
   rintro e wz ⟨rfl, bz⟩
   have HE4 := Aside0.mk (HE3.out.trans (bz.mono HE3.out.size))
   have HA4 := Aside0.mk (HA3.out.below bz)
   have HB4 := Aside0.mk (HB3.out.below bz)
   have HT3 := Aside0.mk (HT1.out.below bz)
   have HT4 := Aside0.mk (HT2.out.below bz)
   clear HE3 HA3 HB3 HT1 HT2 bz t0 v0 t1 v1 t2 v2 t3 v3 t4 v4 t5 v5 t6 v6 t7 v7
   rcases hl : eqL eqI x.f6 y.f6 with _ | _
   ·go_wp2_with fail
    go_ret
    exact ⟨ret_b (sameB_no (HNE.out (fun e => by subst e; rw [eqL_self] at hl; cases hl))), HE4.out⟩
   have t7 := HT3.out.g7
   have v7 := HT4.out.g7
   rcases h7 : (x.f7 == y.f7) with _ | _
   ·have g7 : (x.f7 != y.f7) = true := by rw [bne_iff_ne]; exact beq_eq_false_iff_ne.mp h7
    go_wp2_with fail
    go_ret
    exact ⟨ret_b (sameB_no (HNE.out (fun e => by subst e; simp at h7))), HE4.out⟩
   have g7 : (x.f7 != y.f7) = false := by rw [bne_eq_false_iff_eq]; exact beq_iff_eq.mp h7
   have HXE := Aside0.mk ((eq69_iff x y).mp (by unfold eq69; simp only [h0, h1, h2, h3, h4, h5, h7, hl, Bool.true_and]))
   have HK := Aside0.mk (upto_eq HS.out HX0.out (HY0.out.trans HXE.out.symm))
   go_wp2_with fail
   go_roundg (t.f2.length - (k + 1))
   case measure => have := HLT.out; omega
   case rel => exact ⟨k + 1, HLT.out, rfl, by go_num, HK, HE4, HA4, HB4⟩
 have hd : decide ((k : Int) < (t.f2.length : Int)) = false := decide_eq_false (by omega)
 have HF2 := Aside0.mk (show t.f2 = u.f2 from list_eq (HLE.out.1) (fun j hj => HS.out j (by omega)))
 as_aux_lemma =>
  clear HS hk
  go_upto_region 9 with fail
  go_wp2_with fail
  clear a2 hd hlt
  go_loopg [8] t.f3.length (fun g i wr => ∃ k : Nat, k ≤ t.f3.length ∧ g = t.f3.length - k ∧ i = .int .i64 k ∧ Aside0 (∀ j, j < k → t.f3.getD j z88 = u.f3.getD j z88) ∧ Aside0 (Below w.heap.size w wr) ∧ Aside0 (At wr PP V t) ∧ Aside0 (At wr QQ U u))
  case atStart => exact ⟨0, by omega, rfl, rfl, ⟨fun j hj => by omega⟩, HE, HA, HB⟩
  case round =>
  clear HE HA HB
  obtain ⟨k, hk, rfl, rfl, HS, HE, HA, HB⟩ := hrel
  have a3 := HA.out.q3
  by_cases hlt : k < t.f3.length
  case pos => as_aux_lemma =>
   have hd : decide ((k : Int) < (t.f3.length : Int)) = true := decide_eq_true (by omega)
   have hly : k < u.f3.length := by have := HLE.out.2.1; omega
   have HLT := Aside0.mk hlt
   obtain ⟨x, ad, hx0, eA, HA0⟩ := ring_at HA.out.tb.rg k hlt
   obtain ⟨y, ad2, hy0, eB, HB0⟩ := ring_at HB.out.tb.rg k hly
   have EA := Aside0.mk eA
   have EB := Aside0.mk eB
   have HAX := Aside0.mk HA0
   have HAY := Aside0.mk HB0
   have HX0 := Aside0.mk hx0
   have HY0 := Aside0.mk hy0
   have HNE := Aside0.mk (show x ≠ y → t ≠ u from fun h e => h (by rw [← hx0, ← hy0, e]))
   have hbd := HA.out.tb.bd.rg
   clear hx0 hy0 eA eB HA0 HB0
   go_upto_region 12 with fail
   clear a3
   refine start_ (n := 11) (S := fun w_ => Below wr.heap.size wr w_) (ds := []) #[false, false, false, false, false, false, false, false, false, false, false] (by kernel_rfl) rfl rfl (drew_below wr) (fun hHeld => ?_)
   have HH := Aside0.mk hHeld
   clear hHeld
   generalize wr.drew = wv at HH ⊢
   refine seq_start (n := 11) [] (by kernel_rfl) (by rfl) (fun HSQ => ?_)
   refine seqp_ (v := ?_) (a' := ?_) HSQ.out rfl rfl rfl (fun _ _ _ h => h) (Or.inl ⟨by rfl, ?_⟩) ?_ ?_
   rotate_left
   ·intro w_
    go_simp
    with_reducible rfl
   rotate_left
   ·simp only [Act.put, List.setIfInBounds_toArray, List.set_cons_zero, List.set_cons_succ, i64_w, i32_w]
    rfl
   refine seqt_ (v := ?_) (a' := ?_) HSQ.out rfl rfl rfl (by kernel_rfl) (fun _ _ _ h => h) (Or.inl ⟨by rfl, ?_⟩) HH.out ?_ ?_
   rotate_left
   ·rintro w_ s
    have a3 := (HA.out.below s).q3; rw [EA.out] at a3; have b3 := (HB.out.below s).q3; rw [EB.out] at b3
    go_simp
    with_reducible rfl
   rotate_left
   ·simp only [Act.put, List.setIfInBounds_toArray, List.set_cons_zero, List.set_cons_succ, i64_w, i32_w]
    rfl
   iterate 2
    refine seqp_ (v := ?_) (a' := ?_) HSQ.out rfl rfl rfl (fun _ _ _ h => h) (Or.inl ⟨by rfl, ?_⟩) ?_ ?_
    rotate_left
    ·intro w_
     go_simp
     with_reducible rfl
    rotate_left
    ·simp only [Act.put, List.setIfInBounds_toArray, List.set_cons_zero, List.set_cons_succ, i64_w, i32_w]
     rfl
   refine seqt_ (i := 4) (N := 147) (v := ?_) (a' := ?_) HSQ.out rfl rfl rfl (by kernel_rfl) (fun _ _ _ h => h) (Or.inl ⟨by rfl, ?_⟩) HH.out ?_ ?_
   rotate_left
   ·rintro w_ s
    refine run88 (HAX.out.below s) (.tmp 146) ?_ ?_ <;> rfl
   rotate_left
   ·simp only [Act.put, List.setIfInBounds_toArray, List.set_cons_zero, List.set_cons_succ, i64_w, i32_w]
    rfl
   refine seqp_ (v := ?_) (a' := ?_) HSQ.out rfl rfl rfl (fun _ _ _ h => h) (Or.inl ⟨by rfl, ?_⟩) ?_ ?_
   rotate_left
   ·intro w_
    go_simp
    with_reducible rfl
   rotate_left
   ·simp only [Act.put, List.setIfInBounds_toArray, List.set_cons_zero, List.set_cons_succ, i64_w, i32_w]
    rfl
   refine seqt_ (v := ?_) (a' := ?_) HSQ.out rfl rfl rfl (by kernel_rfl) (fun _ _ _ h => h) (Or.inl ⟨by rfl, ?_⟩) HH.out ?_ ?_
   rotate_left
   ·rintro w_ s
    have a3 := (HA.out.below s).q3; rw [EA.out] at a3; have b3 := (HB.out.below s).q3; rw [EB.out] at b3
    go_simp
    with_reducible rfl
   rotate_left
   ·simp only [Act.put, List.setIfInBounds_toArray, List.set_cons_zero, List.set_cons_succ, i64_w, i32_w]
    rfl
   iterate 2
    refine seqp_ (v := ?_) (a' := ?_) HSQ.out rfl rfl rfl (fun _ _ _ h => h) (Or.inl ⟨by rfl, ?_⟩) ?_ ?_
    rotate_left
    ·intro w_
     go_simp
     with_reducible rfl
    rotate_left
    ·simp only [Act.put, List.setIfInBounds_toArray, List.set_cons_zero, List.set_cons_succ, i64_w, i32_w]
     rfl
   refine seqt_ (i := 9) (N := 152) (v := ?_) (a' := ?_) HSQ.out rfl rfl rfl (by kernel_rfl) (fun _ _ _ h => h) (Or.inl ⟨by rfl, ?_⟩) HH.out ?_ ?_
   rotate_left
   ·rintro w_ s
    refine run88 (HAY.out.below s) (.tmp 151) ?_ ?_ <;> rfl
   rotate_left
   ·simp only [Act.put, List.setIfInBounds_toArray, List.set_cons_zero, List.set_cons_succ, i64_w, i32_w]
    rfl
   refine seqp_ (i := 10) (N := 153) (v := ?_) (a' := ?_) HSQ.out rfl rfl rfl (fun _ _ _ h => h) (Or.inl ⟨by rfl, ?_⟩) ?_ ?_
   rotate_left
   ·intro w_
    refine run_neq88 w_ x y (.tmp 147) (.tmp 152) ?_ ?_ ?_ <;> rfl
   rotate_left
   ·simp only [Act.put, List.setIfInBounds_toArray, List.set_cons_zero, List.set_cons_succ, i64_w, i32_w]
    rfl
   refine seqd_ HSQ.out ?_
   clear HSQ
   have HE2 := Aside0.mk (HE.out.trans (HH.out.mono HE.out.size))
   have HA2 := Aside0.mk (HA.out.below HH.out)
   have HB2 := Aside0.mk (HB.out.below HH.out)
   rcases he : eq88 x y with _ | _
   ·have HK := Aside0.mk (HNE.out (fun e => by rw [e, (eq88_iff y y).mpr rfl] at he; cases he))
    go_wp2_with fail
    go_ret
    exact ⟨ret_b (sameB_no HK.out), HE2.out⟩
   ·have HK := Aside0.mk (upto_eq HS.out HX0.out (HY0.out.trans ((eq88_iff x y).mp he).symm))
    go_wp2_with fail
    go_roundg (t.f3.length - (k + 1))
    case measure => have := HLT.out; omega
    case rel => exact ⟨k + 1, HLT.out, rfl, by go_num, HK, HE2, HA2, HB2⟩
  have hd : decide ((k : Int) < (t.f3.length : Int)) = false := decide_eq_false (by omega)
  have HF3 := Aside0.mk (show t.f3 = u.f3 from list_eq (HLE.out.2.1) (fun j hj => HS.out j (by omega)))
  as_aux_lemma =>
   clear HS hk
   go_upto_region 14 with fail
   go_wp2_with fail
   clear a3 hd hlt
   go_loopg [9] t.f4.length (fun g i wr => ∃ k : Nat, k ≤ t.f4.length ∧ g = t.f4.length - k ∧ i = .int .i64 k ∧ Aside0 (∀ j, j < k → t.f4.getD j z66 = u.f4.getD j z66) ∧ Aside0 (Below w.heap.size w wr) ∧ Aside0 (At wr PP V t) ∧ Aside0 (At wr QQ U u))
   case atStart => exact ⟨0, by omega, rfl, rfl, ⟨fun j hj => by omega⟩, HE, HA, HB⟩
   case round =>
   clear HE HA HB
   obtain ⟨k, hk, rfl, rfl, HS, HE, HA, HB⟩ := hrel
   have a4 := HA.out.q4
   by_cases hlt : k < t.f4.length
   case pos => as_aux_lemma =>
    have hd : decide ((k : Int) < (t.f4.length : Int)) = true := decide_eq_true (by omega)
    have hly : k < u.f4.length := by have := HLE.out.2.2.1; omega
    have HLT := Aside0.mk hlt
    obtain ⟨x, ad, hx0, eA, HA0⟩ := res_at HA.out.tb.rs k hlt
    obtain ⟨y, ad2, hy0, eB, HB0⟩ := res_at HB.out.tb.rs k hly
    have EA := Aside0.mk eA
    have EB := Aside0.mk eB
    have HAX := Aside0.mk HA0
    have HAY := Aside0.mk HB0
    have HX0 := Aside0.mk hx0
    have HY0 := Aside0.mk hy0
    have HNE := Aside0.mk (show x ≠ y → t ≠ u from fun h e => h (by rw [← hx0, ← hy0, e]))
    have hbd := HA.out.tb.bd.rs
    clear hx0 hy0 eA eB HA0 HB0
    go_upto_region 17 with fail
    clear a4
    refine start_ (n := 11) (S := fun w_ => Below wr.heap.size wr w_) (ds := []) #[false, false, false, false, false, false, false, false, false, false, false] (by kernel_rfl) rfl rfl (drew_below wr) (fun hHeld => ?_)
    have HH := Aside0.mk hHeld
    clear hHeld
    generalize wr.drew = wv at HH ⊢
    refine seq_start (n := 11) [] (by kernel_rfl) (by rfl) (fun HSQ => ?_)
    refine seqp_ (v := ?_) (a' := ?_) HSQ.out rfl rfl rfl (fun _ _ _ h => h) (Or.inl ⟨by rfl, ?_⟩) ?_ ?_
    rotate_left
    ·intro w_
     go_simp
     with_reducible rfl
    rotate_left
    ·simp only [Act.put, List.setIfInBounds_toArray, List.set_cons_zero, List.set_cons_succ, i64_w, i32_w]
     rfl
    refine seqt_ (v := ?_) (a' := ?_) HSQ.out rfl rfl rfl (by kernel_rfl) (fun _ _ _ h => h) (Or.inl ⟨by rfl, ?_⟩) HH.out ?_ ?_
    rotate_left
    ·rintro w_ s
     have a4 := (HA.out.below s).q4; rw [EA.out] at a4; have b4 := (HB.out.below s).q4; rw [EB.out] at b4
     go_simp
     with_reducible rfl
    rotate_left
    ·simp only [Act.put, List.setIfInBounds_toArray, List.set_cons_zero, List.set_cons_succ, i64_w, i32_w]
     rfl
    iterate 2
     refine seqp_ (v := ?_) (a' := ?_) HSQ.out rfl rfl rfl (fun _ _ _ h => h) (Or.inl ⟨by rfl, ?_⟩) ?_ ?_
     rotate_left
     ·intro w_
      go_simp
      with_reducible rfl
     rotate_left
     ·simp only [Act.put, List.setIfInBounds_toArray, List.set_cons_zero, List.set_cons_succ, i64_w, i32_w]
      rfl
    refine seqt_ (i := 4) (N := 165) (v := ?_) (a' := ?_) HSQ.out rfl rfl rfl (by kernel_rfl) (fun _ _ _ h => h) (Or.inl ⟨by rfl, ?_⟩) HH.out ?_ ?_
    rotate_left
    ·rintro w_ s
     refine run66 (HAX.out.below s) (.tmp 164) ?_ ?_ <;> rfl
    rotate_left
    ·simp only [Act.put, List.setIfInBounds_toArray, List.set_cons_zero, List.set_cons_succ, i64_w, i32_w]
     rfl
    refine seqp_ (v := ?_) (a' := ?_) HSQ.out rfl rfl rfl (fun _ _ _ h => h) (Or.inl ⟨by rfl, ?_⟩) ?_ ?_
    rotate_left
    ·intro w_
     go_simp
     with_reducible rfl
    rotate_left
    ·simp only [Act.put, List.setIfInBounds_toArray, List.set_cons_zero, List.set_cons_succ, i64_w, i32_w]
     rfl
    refine seqt_ (v := ?_) (a' := ?_) HSQ.out rfl rfl rfl (by kernel_rfl) (fun _ _ _ h => h) (Or.inl ⟨by rfl, ?_⟩) HH.out ?_ ?_
    rotate_left
    ·rintro w_ s
     have a4 := (HA.out.below s).q4; rw [EA.out] at a4; have b4 := (HB.out.below s).q4; rw [EB.out] at b4
     go_simp
     with_reducible rfl
    rotate_left
    ·simp only [Act.put, List.setIfInBounds_toArray, List.set_cons_zero, List.set_cons_succ, i64_w, i32_w]
     rfl
    iterate 2
     refine seqp_ (v := ?_) (a' := ?_) HSQ.out rfl rfl rfl (fun _ _ _ h => h) (Or.inl ⟨by rfl, ?_⟩) ?_ ?_
     rotate_left
     ·intro w_
      go_simp
      with_reducible rfl
     rotate_left
     ·simp only [Act.put, List.setIfInBounds_toArray, List.set_cons_zero, List.set_cons_succ, i64_w, i32_w]
      rfl
    refine seqt_ (i := 9) (N := 170) (v := ?_) (a' := ?_) HSQ.out rfl rfl rfl (by kernel_rfl) (fun _ _ _ h => h) (Or.inl ⟨by rfl, ?_⟩) HH.out ?_ ?_
    rotate_left
    ·rintro w_ s
     refine run66 (HAY.out.below s) (.tmp 169) ?_ ?_ <;> rfl
    rotate_left
    ·simp only [Act.put, List.setIfInBounds_toArray, List.set_cons_zero, List.set_cons_succ, i64_w, i32_w]
     rfl
    refine seqp_ (i := 10) (N := 171) (v := ?_) (a' := ?_) HSQ.out rfl rfl rfl (fun _ _ _ h => h) (Or.inl ⟨by rfl, ?_⟩) ?_ ?_
    rotate_left
    ·intro w_
     refine run_neq66 w_ x y (.tmp 165) (.tmp 170) ?_ ?_ ?_ <;> rfl
    rotate_left
    ·simp only [Act.put, List.setIfInBounds_toArray, List.set_cons_zero, List.set_cons_succ, i64_w, i32_w]
     rfl
    refine seqd_ HSQ.out ?_
    clear HSQ
    have HE2 := Aside0.mk (HE.out.trans (HH.out.mono HE.out.size))
    have HA2 := Aside0.mk (HA.out.below HH.out)
    have HB2 := Aside0.mk (HB.out.below HH.out)
    rcases he : eq66 x y with _ | _
    ·have HK := Aside0.mk (HNE.out (fun e => by rw [e, (eq66_iff y y).mpr rfl] at he; cases he))
     go_wp2_with fail
     go_ret
     exact ⟨ret_b (sameB_no HK.out), HE2.out⟩
    ·have HK := Aside0.mk (upto_eq HS.out HX0.out (HY0.out.trans ((eq66_iff x y).mp he).symm))
     go_wp2_with fail
     go_roundg (t.f4.length - (k + 1))
     case measure => have := HLT.out; omega
     case rel => exact ⟨k + 1, HLT.out, rfl, by go_num, HK, HE2, HA2, HB2⟩
   have hd : decide ((k : Int) < (t.f4.length : Int)) = false := decide_eq_false (by omega)
   have HF4 := Aside0.mk (show t.f4 = u.f4 from list_eq (HLE.out.2.2.1) (fun j hj => HS.out j (by omega)))
   as_aux_lemma =>
    clear HS hk
    go_upto_region 19 with fail
    go_wp2_with fail
    clear a4 hd hlt
    go_loopg [10] t.f5.length (fun g i wr => ∃ k : Nat, k ≤ t.f5.length ∧ g = t.f5.length - k ∧ i = .int .i64 k ∧ Aside0 (∀ j, j < k → t.f5.getD j z95 = u.f5.getD j z95) ∧ Aside0 (Below w.heap.size w wr) ∧ Aside0 (At wr PP V t) ∧ Aside0 (At wr QQ U u))
    case atStart => exact ⟨0, by omega, rfl, rfl, ⟨fun j hj => by omega⟩, HE, HA, HB⟩
    case round =>
    clear HE HA HB
    obtain ⟨k, hk, rfl, rfl, HS, HE, HA, HB⟩ := hrel
    have a5 := HA.out.q5
    by_cases hlt : k < t.f5.length
    case pos => as_aux_lemma =>
     have hd : decide ((k : Int) < (t.f5.length : Int)) = true := decide_eq_true (by omega)
     have hly : k < u.f5.length := by have := HLE.out.2.2.2.1; omega
     have HLT := Aside0.mk hlt
     obtain ⟨x, ad, hx0, eA, HA0⟩ := ctr_at HA.out.tb.ct k hlt
     obtain ⟨y, ad2, hy0, eB, HB0⟩ := ctr_at HB.out.tb.ct k hly
     have EA := Aside0.mk eA
     have EB := Aside0.mk eB
     have HAX := Aside0.mk HA0
     have HAY := Aside0.mk HB0
     have HX0 := Aside0.mk hx0
     have HY0 := Aside0.mk hy0
     have HNE := Aside0.mk (show x ≠ y → t ≠ u from fun h e => h (by rw [← hx0, ← hy0, e]))
     have hbd := HA.out.tb.bd.ct
     clear hx0 hy0 eA eB HA0 HB0
     go_upto_region 22 with fail
     clear a5
     refine start_ (n := 11) (S := fun w_ => Below wr.heap.size wr w_) (ds := []) #[false, false, false, false, false, false, false, false, false, false, false] (by kernel_rfl) rfl rfl (drew_below wr) (fun hHeld => ?_)
     have HH := Aside0.mk hHeld
     clear hHeld
     generalize wr.drew = wv at HH ⊢
     refine seq_start (n := 11) [] (by kernel_rfl) (by rfl) (fun HSQ => ?_)
     refine seqp_ (v := ?_) (a' := ?_) HSQ.out rfl rfl rfl (fun _ _ _ h => h) (Or.inl ⟨by rfl, ?_⟩) ?_ ?_
     rotate_left
     ·intro w_
      go_simp
      with_reducible rfl
     rotate_left
     ·simp only [Act.put, List.setIfInBounds_toArray, List.set_cons_zero, List.set_cons_succ, i64_w, i32_w]
      rfl
     refine seqt_ (v := ?_) (a' := ?_) HSQ.out rfl rfl rfl (by kernel_rfl) (fun _ _ _ h => h) (Or.inl ⟨by rfl, ?_⟩) HH.out ?_ ?_
     rotate_left
     ·rintro w_ s
      have a5 := (HA.out.below s).q5; rw [EA.out] at a5; have b5 := (HB.out.below s).q5; rw [EB.out] at b5
      go_simp
      with_reducible rfl
     rotate_left
     ·simp only [Act.put, List.setIfInBounds_toArray, List.set_cons_zero, List.set_cons_succ, i64_w, i32_w]
      rfl
     iterate 2
      refine seqp_ (v := ?_) (a' := ?_) HSQ.out rfl rfl rfl (fun _ _ _ h => h) (Or.inl ⟨by rfl, ?_⟩) ?_ ?_
      rotate_left
      ·intro w_
       go_simp
       with_reducible rfl
      rotate_left
      ·simp only [Act.put, List.setIfInBounds_toArray, List.set_cons_zero, List.set_cons_succ, i64_w, i32_w]
       rfl
     refine seqt_ (i := 4) (N := 183) (v := ?_) (a' := ?_) HSQ.out rfl rfl rfl (by kernel_rfl) (fun _ _ _ h => h) (Or.inl ⟨by rfl, ?_⟩) HH.out ?_ ?_
     rotate_left
     ·rintro w_ s
      refine run95 (HAX.out.below s) (.tmp 182) ?_ ?_ <;> rfl
     rotate_left
     ·simp only [Act.put, List.setIfInBounds_toArray, List.set_cons_zero, List.set_cons_succ, i64_w, i32_w]
      rfl
     refine seqp_ (v := ?_) (a' := ?_) HSQ.out rfl rfl rfl (fun _ _ _ h => h) (Or.inl ⟨by rfl, ?_⟩) ?_ ?_
     rotate_left
     ·intro w_
      go_simp
      with_reducible rfl
     rotate_left
     ·simp only [Act.put, List.setIfInBounds_toArray, List.set_cons_zero, List.set_cons_succ, i64_w, i32_w]
      rfl
     refine seqt_ (v := ?_) (a' := ?_) HSQ.out rfl rfl rfl (by kernel_rfl) (fun _ _ _ h => h) (Or.inl ⟨by rfl, ?_⟩) HH.out ?_ ?_
     rotate_left
     ·rintro w_ s
      have a5 := (HA.out.below s).q5; rw [EA.out] at a5; have b5 := (HB.out.below s).q5; rw [EB.out] at b5
      go_simp
      with_reducible rfl
     rotate_left
     ·simp only [Act.put, List.setIfInBounds_toArray, List.set_cons_zero, List.set_cons_succ, i64_w, i32_w]
      rfl
     iterate 2
      refine seqp_ (v := ?_) (a' := ?_) HSQ.out rfl rfl rfl (fun _ _ _ h => h) (Or.inl ⟨by rfl, ?_⟩) ?_ ?_
      rotate_left
      ·intro w_
       go_simp
       with_reducible rfl
      rotate_left
      ·simp only [Act.put, List.setIfInBounds_toArray, List.set_cons_zero, List.set_cons_succ, i64_w, i32_w]
       rfl
     refine seqt_ (i := 9) (N := 188) (v := ?_) (a' := ?_) HSQ.out rfl rfl rfl (by kernel_rfl) (fun _ _ _ h => h) (Or.inl ⟨by rfl, ?_⟩) HH.out ?_ ?_
     rotate_left
     ·rintro w_ s
      refine run95 (HAY.out.below s) (.tmp 187) ?_ ?_ <;> rfl
     rotate_left
     ·simp only [Act.put, List.setIfInBounds_toArray, List.set_cons_zero, List.set_cons_succ, i64_w, i32_w]
      rfl
     refine seqp_ (i := 10) (N := 189) (v := ?_) (a' := ?_) HSQ.out rfl rfl rfl (fun _ _ _ h => h) (Or.inl ⟨by rfl, ?_⟩) ?_ ?_
     rotate_left
     ·intro w_
      refine run_neq95 w_ x y (.tmp 183) (.tmp 188) ?_ ?_ ?_ <;> rfl
     rotate_left
     ·simp only [Act.put, List.setIfInBounds_toArray, List.set_cons_zero, List.set_cons_succ, i64_w, i32_w]
      rfl
     refine seqd_ HSQ.out ?_
     clear HSQ
     have HE2 := Aside0.mk (HE.out.trans (HH.out.mono HE.out.size))
     have HA2 := Aside0.mk (HA.out.below HH.out)
     have HB2 := Aside0.mk (HB.out.below HH.out)
     rcases he : eq95 x y with _ | _
     ·have HK := Aside0.mk (HNE.out (fun e => by rw [e, (eq95_iff y y).mpr rfl] at he; cases he))
      go_wp2_with fail
      go_ret
      exact ⟨ret_b (sameB_no HK.out), HE2.out⟩
     ·have HK := Aside0.mk (upto_eq HS.out HX0.out (HY0.out.trans ((eq95_iff x y).mp he).symm))
      go_wp2_with fail
      go_roundg (t.f5.length - (k + 1))
      case measure => have := HLT.out; omega
      case rel => exact ⟨k + 1, HLT.out, rfl, by go_num, HK, HE2, HA2, HB2⟩
    have hd : decide ((k : Int) < (t.f5.length : Int)) = false := decide_eq_false (by omega)
    have HF5 := Aside0.mk (show t.f5 = u.f5 from list_eq (HLE.out.2.2.2.1) (fun j hj => HS.out j (by omega)))
    as_aux_lemma =>
     clear HS hk
     go_upto_region 24 with fail
     go_wp2_with fail
     clear a5 hd hlt
     go_loopg [11] t.f6.length (fun g i wr => ∃ k : Nat, k ≤ t.f6.length ∧ g = t.f6.length - k ∧ i = .int .i64 k ∧ Aside0 (∀ j, j < k → t.f6.getD j z102 = u.f6.getD j z102) ∧ Aside0 (Below w.heap.size w wr) ∧ Aside0 (At wr PP V t) ∧ Aside0 (At wr QQ U u))
     case atStart => exact ⟨0, by omega, rfl, rfl, ⟨fun j hj => by omega⟩, HE, HA, HB⟩
     case round =>
     clear HE HA HB
     obtain ⟨k, hk, rfl, rfl, HS, HE, HA, HB⟩ := hrel
     have a6 := HA.out.q6
     by_cases hlt : k < t.f6.length
     case pos => as_aux_lemma =>
      have hd : decide ((k : Int) < (t.f6.length : Int)) = true := decide_eq_true (by omega)
      have hly : k < u.f6.length := by have := HLE.out.2.2.2.2.1; omega
      have HLT := Aside0.mk hlt
      obtain ⟨x, ad, hx0, eA, HA0⟩ := alm_at HA.out.tb.al k hlt
      obtain ⟨y, ad2, hy0, eB, HB0⟩ := alm_at HB.out.tb.al k hly
      have EA := Aside0.mk eA
      have EB := Aside0.mk eB
      have HAX := Aside0.mk HA0
      have HAY := Aside0.mk HB0
      have HX0 := Aside0.mk hx0
      have HY0 := Aside0.mk hy0
      have HNE := Aside0.mk (show x ≠ y → t ≠ u from fun h e => h (by rw [← hx0, ← hy0, e]))
      have hbd := HA.out.tb.bd.al
      clear hx0 hy0 eA eB HA0 HB0
      go_upto_region 27 with fail
      clear a6
      refine start_ (n := 11) (S := fun w_ => Below wr.heap.size wr w_) (ds := []) #[false, false, false, false, false, false, false, false, false, false, false] (by kernel_rfl) rfl rfl (drew_below wr) (fun hHeld => ?_)
      have HH := Aside0.mk hHeld
      clear hHeld
      generalize wr.drew = wv at HH ⊢
      refine seq_start (n := 11) [] (by kernel_rfl) (by rfl) (fun HSQ => ?_)
      refine seqp_ (v := ?_) (a' := ?_) HSQ.out rfl rfl rfl (fun _ _ _ h => h) (Or.inl ⟨by rfl, ?_⟩) ?_ ?_
      rotate_left
      ·intro w_
       go_simp
       with_reducible rfl
      rotate_left
      ·simp only [Act.put, List.setIfInBounds_toArray, List.set_cons_zero, List.set_cons_succ, i64_w, i32_w]
       rfl
      refine seqt_ (v := ?_) (a' := ?_) HSQ.out rfl rfl rfl (by kernel_rfl) (fun _ _ _ h => h) (Or.inl ⟨by rfl, ?_⟩) HH.out ?_ ?_
      rotate_left
      ·rintro w_ s
       have a6 := (HA.out.below s).q6; rw [EA.out] at a6; have b6 := (HB.out.below s).q6; rw [EB.out] at b6
       go_simp
       with_reducible rfl
      rotate_left
      ·simp only [Act.put, List.setIfInBounds_toArray, List.set_cons_zero, List.set_cons_succ, i64_w, i32_w]
       rfl
      iterate 2
       refine seqp_ (v := ?_) (a' := ?_) HSQ.out rfl rfl rfl (fun _ _ _ h => h) (Or.inl ⟨by rfl, ?_⟩) ?_ ?_
       rotate_left
       ·intro w_
        go_simp
        with_reducible rfl
       rotate_left
       ·simp only [Act.put, List.setIfInBounds_toArray, List.set_cons_zero, List.set_cons_succ, i64_w, i32_w]
        rfl
      refine seqt_ (i := 4) (N := 201) (v := ?_) (a' := ?_) HSQ.out rfl rfl rfl (by kernel_rfl) (fun _ _ _ h => h) (Or.inl ⟨by rfl, ?_⟩) HH.out ?_ ?_
      rotate_left
      ·rintro w_ s
       refine run102 (HAX.out.below s) (.tmp 200) ?_ ?_ <;> rfl
      rotate_left
      ·simp only [Act.put, List.setIfInBounds_toArray, List.set_cons_zero, List.set_cons_succ, i64_w, i32_w]
       rfl
      refine seqp_ (v := ?_) (a' := ?_) HSQ.out rfl rfl rfl (fun _ _ _ h => h) (Or.inl ⟨by rfl, ?_⟩) ?_ ?_
      rotate_left
      ·intro w_
       go_simp
       with_reducible rfl
      rotate_left
      ·simp only [Act.put, List.setIfInBounds_toArray, List.set_cons_zero, List.set_cons_succ, i64_w, i32_w]
       rfl
      refine seqt_ (v := ?_) (a' := ?_) HSQ.out rfl rfl rfl (by kernel_rfl) (fun _ _ _ h => h) (Or.inl ⟨by rfl, ?_⟩) HH.out ?_ ?_
      rotate_left
      ·rintro w_ s
       have a6 := (HA.out.below s).q6; rw [EA.out] at a6; have b6 := (HB.out.below s).q6; rw [EB.out] at b6
       go_simp
       with_reducible rfl
      rotate_left
      ·simp only [Act.put, List.setIfInBounds_toArray, List.set_cons_zero, List.set_cons_succ, i64_w, i32_w]
       rfl
      iterate 2
       refine seqp_ (v := ?_) (a' := ?_) HSQ.out rfl rfl rfl (fun _ _ _ h => h) (Or.inl ⟨by rfl, ?_⟩) ?_ ?_
       rotate_left
       ·intro w_
        go_simp
        with_reducible rfl
       rotate_left
       ·simp only [Act.put, List.setIfInBounds_toArray, List.set_cons_zero, List.set_cons_succ, i64_w, i32_w]
        rfl
      refine seqt_ (i := 9) (N := 206) (v := ?_) (a' := ?_) HSQ.out rfl rfl rfl (by kernel_rfl) (fun _ _ _ h => h) (Or.inl ⟨by rfl, ?_⟩) HH.out ?_ ?_
      rotate_left
      ·rintro w_ s
       refine run102 (HAY.out.below s) (.tmp 205) ?_ ?_ <;> rfl
      rotate_left
      ·simp only [Act.put, List.setIfInBounds_toArray, List.set_cons_zero, List.set_cons_succ, i64_w, i32_w]
       rfl
      refine seqp_ (i := 10) (N := 207) (v := ?_) (a' := ?_) HSQ.out rfl rfl rfl (fun _ _ _ h => h) (Or.inl ⟨by rfl, ?_⟩) ?_ ?_
      rotate_left
      ·intro w_
       refine run_neq102 w_ x y (.tmp 201) (.tmp 206) ?_ ?_ ?_ <;> rfl
      rotate_left
      ·simp only [Act.put, List.setIfInBounds_toArray, List.set_cons_zero, List.set_cons_succ, i64_w, i32_w]
       rfl
      refine seqd_ HSQ.out ?_
      clear HSQ
      have HE2 := Aside0.mk (HE.out.trans (HH.out.mono HE.out.size))
      have HA2 := Aside0.mk (HA.out.below HH.out)
      have HB2 := Aside0.mk (HB.out.below HH.out)
      rcases he : eq102 x y with _ | _
      ·have HK := Aside0.mk (HNE.out (fun e => by rw [e, (eq102_iff y y).mpr rfl] at he; cases he))
       go_wp2_with fail
       go_ret
       exact ⟨ret_b (sameB_no HK.out), HE2.out⟩
      ·have HK := Aside0.mk (upto_eq HS.out HX0.out (HY0.out.trans ((eq102_iff x y).mp he).symm))
       go_wp2_with fail
       go_roundg (t.f6.length - (k + 1))
       case measure => have := HLT.out; omega
       case rel => exact ⟨k + 1, HLT.out, rfl, by go_num, HK, HE2, HA2, HB2⟩
     have hd : decide ((k : Int) < (t.f6.length : Int)) = false := decide_eq_false (by omega)
     have HF6 := Aside0.mk (show t.f6 = u.f6 from list_eq (HLE.out.2.2.2.2.1) (fun j hj => HS.out j (by omega)))
     as_aux_lemma =>
      clear HS hk
      go_upto_region 29 with fail
      go_wp2_with fail
      clear a6 hd hlt
      go_loopg [12] t.f7.length (fun g i wr => ∃ k : Nat, k ≤ t.f7.length ∧ g = t.f7.length - k ∧ i = .int .i64 k ∧ Aside0 (∀ j, j < k → t.f7.getD j z107 = u.f7.getD j z107) ∧ Aside0 (Below w.heap.size w wr) ∧ Aside0 (At wr PP V t) ∧ Aside0 (At wr QQ U u))
      case atStart => exact ⟨0, by omega, rfl, rfl, ⟨fun j hj => by omega⟩, HE, HA, HB⟩
      case round =>
      clear HE HA HB
      obtain ⟨k, hk, rfl, rfl, HS, HE, HA, HB⟩ := hrel
      have a7 := HA.out.q7
      by_cases hlt : k < t.f7.length
      case pos => as_aux_lemma =>
       have hd : decide ((k : Int) < (t.f7.length : Int)) = true := decide_eq_true (by omega)
       have hly : k < u.f7.length := by have := HLE.out.2.2.2.2.2.1; omega
       have HLT := Aside0.mk hlt
       obtain ⟨x, ad, A6, c6, hx0, eA, HA0, l6, g6⟩ := isr_at HA.out.tb.ir k hlt
       obtain ⟨y, ad2, B6, d6, hy0, eB, HB0, n6, m6⟩ := isr_at HB.out.tb.ir k hly
       have EA := Aside0.mk eA
       have EB := Aside0.mk eB
       have HAX := Aside0.mk HA0
       have HAY := Aside0.mk HB0
       have HX0 := Aside0.mk hx0
       have HY0 := Aside0.mk hy0
       have HNE := Aside0.mk (show x ≠ y → t ≠ u from fun h e => h (by rw [← hx0, ← hy0, e]))
       have HGX := Aside0.mk g6
       have HGY := Aside0.mk m6
       have HLX := Aside0.mk l6
       have HLY := Aside0.mk n6
       clear g6 m6 l6 n6
       have hbd := HA.out.tb.bd.ir
       clear hx0 hy0 eA eB HA0 HB0
       go_upto_region 32 with fail
       clear a7
       refine start_ (n := 14) (S := fun w_ => Below wr.heap.size wr w_) (ds := []) #[false, false, false, false, false, false, false, false, false, false, false, false, false, false] (by kernel_rfl) rfl rfl (drew_below wr) (fun hHeld => ?_)
       have HH := Aside0.mk hHeld
       clear hHeld
       generalize wr.drew = wv at HH ⊢
       refine seq_start (n := 14) [] (by kernel_rfl) (by rfl) (fun HSQ => ?_)
       refine seqp_ (v := ?_) (a' := ?_) HSQ.out rfl rfl rfl (fun _ _ _ h => h) (Or.inl ⟨by rfl, ?_⟩) ?_ ?_
       rotate_left
       ·intro w_
        go_simp
        with_reducible rfl
       rotate_left
       ·simp only [Act.put, List.setIfInBounds_toArray, List.set_cons_zero, List.set_cons_succ, i64_w, i32_w]
        rfl
       refine seqt_ (v := ?_) (a' := ?_) HSQ.out rfl rfl rfl (by kernel_rfl) (fun _ _ _ h => h) (Or.inl ⟨by rfl, ?_⟩) HH.out ?_ ?_
       rotate_left
       ·rintro w_ s
        have a7 := (HA.out.below s).q7; rw [EA.out] at a7; have b7 := (HB.out.below s).q7; rw [EB.out] at b7
        go_simp
        with_reducible rfl
       rotate_left
       ·simp only [Act.put, List.setIfInBounds_toArray, List.set_cons_zero, List.set_cons_succ, i64_w, i32_w]
        rfl
       iterate 2
        refine seqp_ (v := ?_) (a' := ?_) HSQ.out rfl rfl rfl (fun _ _ _ h => h) (Or.inl ⟨by rfl, ?_⟩) ?_ ?_
        rotate_left
        ·intro w_
         go_simp
         with_reducible rfl
        rotate_left
        ·simp only [Act.put, List.setIfInBounds_toArray, List.set_cons_zero, List.set_cons_succ, i64_w, i32_w]
         rfl
       refine seqt_ (i := 4) (N := 219) (v := ?_) (a' := ?_) HSQ.out rfl rfl rfl (by kernel_rfl) (fun _ _ _ h => h) (Or.inl ⟨by rfl, ?_⟩) HH.out ?_ ?_
       rotate_left
       ·rintro w_ s
        refine run107 (HAX.out.below s) (.tmp 218) ?_ ?_ <;> rfl
       rotate_left
       ·simp only [Act.put, List.setIfInBounds_toArray, List.set_cons_zero, List.set_cons_succ, i64_w, i32_w]
        rfl
       refine seqp_ (v := ?_) (a' := ?_) HSQ.out rfl rfl rfl (fun _ _ _ h => h) (Or.inl ⟨by rfl, ?_⟩) ?_ ?_
       rotate_left
       ·intro w_
        go_simp
        with_reducible rfl
       rotate_left
       ·simp only [Act.put, List.setIfInBounds_toArray, List.set_cons_zero, List.set_cons_succ, i64_w, i32_w]
        rfl
       refine seqt_ (v := ?_) (a' := ?_) HSQ.out rfl rfl rfl (by kernel_rfl) (fun _ _ _ h => h) (Or.inl ⟨by rfl, ?_⟩) HH.out ?_ ?_
       rotate_left
       ·rintro w_ s
        have a7 := (HA.out.below s).q7; rw [EA.out] at a7; have b7 := (HB.out.below s).q7; rw [EB.out] at b7
        go_simp
        with_reducible rfl
       rotate_left
       ·simp only [Act.put, List.setIfInBounds_toArray, List.set_cons_zero, List.set_cons_succ, i64_w, i32_w]
        rfl
       iterate 2
        refine seqp_ (v := ?_) (a' := ?_) HSQ.out rfl rfl rfl (fun _ _ _ h => h) (Or.inl ⟨by rfl, ?_⟩) ?_ ?_
        rotate_left
        ·intro w_
         go_simp
         with_reducible rfl
        rotate_left
        ·simp only [Act.put, List.setIfInBounds_toArray, List.set_cons_zero, List.set_cons_succ, i64_w, i32_w]
         rfl
       refine seqt_ (i := 9) (N := 224) (v := ?_) (a' := ?_) HSQ.out rfl rfl rfl (by kernel_rfl) (fun _ _ _ h => h) (Or.inl ⟨by rfl, ?_⟩) HH.out ?_ ?_
       rotate_left
       ·rintro w_ s
        refine run107 (HAY.out.below s) (.tmp 223) ?_ ?_ <;> rfl
       rotate_left
       ·simp only [Act.put, List.setIfInBounds_toArray, List.set_cons_zero, List.set_cons_succ, i64_w, i32_w]
        rfl
       have HSQ0 := HSQ
       clear HSQ HSQ0
       refine two_ (i := 10) (j := 11) (Ni := some 13) (Nj := some 14) #[true, true, true, true, true, true, true, true, true, true, true, false, false, false] #[true, true, true, true, true, true, true, true, true, true, false, true, false, false] rfl rfl rfl rfl (by kernel_rfl) (by decide) (by decide) (fun K hK => ?_) (fun K hK => ?_)
       focus
        go_simp
        refine hK.out _ _ (HH.out.alloc HH.out.size _) (fun _ => ?_)
        clear hK K
        refine one_ (i := 11) (N := some 14) #[true, true, true, true, true, true, true, true, true, true, true, true, false, false] rfl rfl (by kernel_rfl) (by decide) (fun K hK => ?_)
        go_simp
        refine hK.out _ _ ((HH.out.alloc HH.out.size _).alloc (HH.out.alloc HH.out.size _).size _) (fun _ => ?_)
        clear hK K
        refine one_ (i := 12) (N := none) #[true, true, true, true, true, true, true, true, true, true, true, true, true, false] rfl rfl (by kernel_rfl) (by decide) (fun K hK => ?_)
        go_simp
        refine hK.out _ _ ((HH.out.alloc HH.out.size _).alloc (HH.out.alloc HH.out.size _).size _) (fun _ => ?_)
        clear hK K
        refine one_ (i := 13) (N := none) #[true, true, true, true, true, true, true, true, true, true, true, true, true, true] rfl rfl (by kernel_rfl) (by decide) (fun K hK => ?_)
        go_simp
        refine hK.out _ _ ((HH.out.alloc HH.out.size _).alloc (HH.out.alloc HH.out.size _).size _) (fun _ => ?_)
        clear hK K
        refine done_ (by kernel_rfl) ?_
        have hw2 := (Below.refl wv.heap.size wv).alloc (Nat.le_refl _) (.cells #[.int .i64 x.f0, .int .i64 x.f1, .slice A6 x.f2.length c6] 107) |>.alloc (by simp) (.cells #[.int .i64 y.f0, .int .i64 y.f1, .slice B6 y.f2.length d6] 107)
        have HHt := Aside0.mk (HH.out.trans (hw2.mono HH.out.size))
        have n0 : ((wv.alloc (.cells #[.int .i64 x.f0, .int .i64 x.f1, .slice A6 x.f2.length c6] 107)).alloc (.cells #[.int .i64 y.f0, .int .i64 y.f1, .slice B6 y.f2.length d6] 107)).heap[wv.heap.size]? = some (.cells #[.int .i64 x.f0, .int .i64 x.f1, .slice A6 x.f2.length c6] 107 (0, 0)) := by rw [heap_alloc_old _ _ (by simp)]; exact heap_alloc_new wv _
        have n1 : ((wv.alloc (.cells #[.int .i64 x.f0, .int .i64 x.f1, .slice A6 x.f2.length c6] 107)).alloc (.cells #[.int .i64 y.f0, .int .i64 y.f1, .slice B6 y.f2.length d6] 107)).heap[wv.heap.size + 1]? = some (.cells #[.int .i64 y.f0, .int .i64 y.f1, .slice B6 y.f2.length d6] 107 (0, 0)) := by have h1 := heap_alloc_new (wv.alloc (.cells #[.int .i64 x.f0, .int .i64 x.f1, .slice A6 x.f2.length c6] 107)) (.cells #[.int .i64 y.f0, .int .i64 y.f1, .slice B6 y.f2.length d6] 107); rw [World.size_alloc] at h1; exact h1
        have HT1 := Aside0.mk (show At107 _ ⟨wv.heap.size, 0, none⟩ x A6 c6 from ⟨fun j v hj => cell_of n0 (by simpa using hj)⟩)
        have HT2 := Aside0.mk (show At107 _ ⟨(wv.heap.size + 1), 0, none⟩ y B6 d6 from ⟨fun j v hj => cell_of n1 (by simpa using hj)⟩)
        clear n0 n1 hw2 HH
        generalize (wv.alloc (.cells #[.int .i64 x.f0, .int .i64 x.f1, .slice A6 x.f2.length c6] 107)).alloc (.cells #[.int .i64 y.f0, .int .i64 y.f1, .slice B6 y.f2.length d6] 107) = ww at *
        generalize (wv.heap.size + 1) = Q at *
        generalize wv.heap.size = P at *
       rotate_left
       focus
        go_simp
        refine hK.out _ _ (HH.out.alloc HH.out.size _) (fun _ => ?_)
        clear hK K
        refine one_ (i := 10) (N := some 13) #[true, true, true, true, true, true, true, true, true, true, true, true, false, false] rfl rfl (by kernel_rfl) (by decide) (fun K hK => ?_)
        go_simp
        refine hK.out _ _ ((HH.out.alloc HH.out.size _).alloc (HH.out.alloc HH.out.size _).size _) (fun _ => ?_)
        clear hK K
        refine one_ (i := 12) (N := none) #[true, true, true, true, true, true, true, true, true, true, true, true, true, false] rfl rfl (by kernel_rfl) (by decide) (fun K hK => ?_)
        go_simp
        refine hK.out _ _ ((HH.out.alloc HH.out.size _).alloc (HH.out.alloc HH.out.size _).size _) (fun _ => ?_)
        clear hK K
        refine one_ (i := 13) (N := none) #[true, true, true, true, true, true, true, true, true, true, true, true, true, true] rfl rfl (by kernel_rfl) (by decide) (fun K hK => ?_)
        go_simp
        refine hK.out _ _ ((HH.out.alloc HH.out.size _).alloc (HH.out.alloc HH.out.size _).size _) (fun _ => ?_)
        clear hK K
        refine done_ (by kernel_rfl) ?_
        have hw2 := (Below.refl wv.heap.size wv).alloc (Nat.le_refl _) (.cells #[.int .i64 y.f0, .int .i64 y.f1, .slice B6 y.f2.length d6] 107) |>.alloc (by simp) (.cells #[.int .i64 x.f0, .int .i64 x.f1, .slice A6 x.f2.length c6] 107)
        have HHt := Aside0.mk (HH.out.trans (hw2.mono HH.out.size))
        have n0 : ((wv.alloc (.cells #[.int .i64 y.f0, .int .i64 y.f1, .slice B6 y.f2.length d6] 107)).alloc (.cells #[.int .i64 x.f0, .int .i64 x.f1, .slice A6 x.f2.length c6] 107)).heap[wv.heap.size]? = some (.cells #[.int .i64 y.f0, .int .i64 y.f1, .slice B6 y.f2.length d6] 107 (0, 0)) := by rw [heap_alloc_old _ _ (by simp)]; exact heap_alloc_new wv _
        have n1 : ((wv.alloc (.cells #[.int .i64 y.f0, .int .i64 y.f1, .slice B6 y.f2.length d6] 107)).alloc (.cells #[.int .i64 x.f0, .int .i64 x.f1, .slice A6 x.f2.length c6] 107)).heap[wv.heap.size + 1]? = some (.cells #[.int .i64 x.f0, .int .i64 x.f1, .slice A6 x.f2.length c6] 107 (0, 0)) := by have h1 := heap_alloc_new (wv.alloc (.cells #[.int .i64 y.f0, .int .i64 y.f1, .slice B6 y.f2.length d6] 107)) (.cells #[.int .i64 x.f0, .int .i64 x.f1, .slice A6 x.f2.length c6] 107); rw [World.size_alloc] at h1; exact h1
        have HT1 := Aside0.mk (show At107 _ ⟨(wv.heap.size + 1), 0, none⟩ x A6 c6 from ⟨fun j v hj => cell_of n1 (by simpa using hj)⟩)
        have HT2 := Aside0.mk (show At107 _ ⟨wv.heap.size, 0, none⟩ y B6 d6 from ⟨fun j v hj => cell_of n0 (by simpa using hj)⟩)
        clear n0 n1 hw2 HH
        generalize (wv.alloc (.cells #[.int .i64 y.f0, .int .i64 y.f1, .slice B6 y.f2.length d6] 107)).alloc (.cells #[.int .i64 x.f0, .int .i64 x.f1, .slice A6 x.f2.length c6] 107) = ww at *
        generalize (wv.heap.size + 1) = P at *
        generalize wv.heap.size = Q at *
       rotate_left
       all_goals
        have HE3 := Aside0.mk (HE.out.trans (HHt.out.mono HE.out.size))
        have HA3 := Aside0.mk (HA.out.below HHt.out)
        have HB3 := Aside0.mk (HB.out.below HHt.out)
        have HGX3 := Aside0.mk (Kd.C_below HGX.out HHt.out)
        have HGY3 := Aside0.mk (Kd.C_below HGY.out HHt.out)
        clear HE HA HB HGX HGY HHt
        have t0 := HT1.out.g0
        have v0 := HT2.out.g0
        have t1 := HT1.out.g1
        have v1 := HT2.out.g1
        have t2 := HT1.out.g2
        have v2 := HT2.out.g2
        rcases h0 : (x.f0 == y.f0) with _ | _
        ·have g0 : (x.f0 != y.f0) = true := by rw [bne_iff_ne]; exact beq_eq_false_iff_ne.mp h0
         go_wp2_with fail
         go_ret
         exact ⟨ret_b (sameB_no (HNE.out (fun e => by subst e; simp at h0))), HE3.out⟩
        have g0 : (x.f0 != y.f0) = false := by rw [bne_eq_false_iff_eq]; exact beq_iff_eq.mp h0
        rcases h1 : (x.f1 == y.f1) with _ | _
        ·have g1 : (x.f1 != y.f1) = true := by rw [bne_iff_ne]; exact beq_eq_false_iff_ne.mp h1
         go_wp2_with fail
         go_ret
         exact ⟨ret_b (sameB_no (HNE.out (fun e => by subst e; simp at h1))), HE3.out⟩
        have g1 : (x.f1 != y.f1) = false := by rw [bne_eq_false_iff_eq]; exact beq_iff_eq.mp h1
        go_wp2_with fail
        refine (ints_calls A6 B6 c6 d6 x.f2 y.f2 ww HGX3.out HGY3.out HLX.out HLY.out).mono ?_
        rintro e wz ⟨rfl, bz⟩
        have HE4 := Aside0.mk (HE3.out.trans (bz.mono HE3.out.size))
        have HA4 := Aside0.mk (HA3.out.below bz)
        have HB4 := Aside0.mk (HB3.out.below bz)
        have HT3 := Aside0.mk (HT1.out.below bz)
        have HT4 := Aside0.mk (HT2.out.below bz)
        clear HE3 HA3 HB3 HT1 HT2 bz t0 v0 t1 v1 t2 v2
        rcases hl : eqL eqI x.f2 y.f2 with _ | _
        ·go_wp2_with fail
         go_ret
         exact ⟨ret_b (sameB_no (HNE.out (fun e => by subst e; rw [eqL_self] at hl; cases hl))), HE4.out⟩
        have HXE := Aside0.mk ((eq107_iff x y).mp (by unfold eq107; simp only [h0, h1, hl, Bool.true_and]))
        have HK := Aside0.mk (upto_eq HS.out HX0.out (HY0.out.trans HXE.out.symm))
        go_wp2_with fail
        go_roundg (t.f7.length - (k + 1))
        case measure => have := HLT.out; omega
        case rel => exact ⟨k + 1, HLT.out, rfl, by go_num, HK, HE4, HA4, HB4⟩
      have hd : decide ((k : Int) < (t.f7.length : Int)) = false := decide_eq_false (by omega)
      have HF7 := Aside0.mk (show t.f7 = u.f7 from list_eq (HLE.out.2.2.2.2.2.1) (fun j hj => HS.out j (by omega)))
      as_aux_lemma =>
       clear HS hk
       go_upto_region 35 with fail
       go_wp2_with fail
       clear a7 hd hlt
       go_loopg [15] t.f8.length (fun g i wr => ∃ k : Nat, k ≤ t.f8.length ∧ g = t.f8.length - k ∧ i = .int .i64 k ∧ Aside0 (∀ j, j < k → t.f8.getD j z113 = u.f8.getD j z113) ∧ Aside0 (Below w.heap.size w wr) ∧ Aside0 (At wr PP V t) ∧ Aside0 (At wr QQ U u))
       case atStart => exact ⟨0, by omega, rfl, rfl, ⟨fun j hj => by omega⟩, HE, HA, HB⟩
       case round =>
       clear HE HA HB
       obtain ⟨k, hk, rfl, rfl, HS, HE, HA, HB⟩ := hrel
       have a8 := HA.out.q8
       by_cases hlt : k < t.f8.length
       case pos => as_aux_lemma =>
        have hd : decide ((k : Int) < (t.f8.length : Int)) = true := decide_eq_true (by omega)
        have hly : k < u.f8.length := by have := HLE.out.2.2.2.2.2.2; omega
        have HLT := Aside0.mk hlt
        obtain ⟨x, ad, hx0, eA, HA0⟩ := msg_at HA.out.tb.mg k hlt
        obtain ⟨y, ad2, hy0, eB, HB0⟩ := msg_at HB.out.tb.mg k hly
        have EA := Aside0.mk eA
        have EB := Aside0.mk eB
        have HAX := Aside0.mk HA0
        have HAY := Aside0.mk HB0
        have HX0 := Aside0.mk hx0
        have HY0 := Aside0.mk hy0
        have HNE := Aside0.mk (show x ≠ y → t ≠ u from fun h e => h (by rw [← hx0, ← hy0, e]))
        have hbd := HA.out.tb.bd.mg
        clear hx0 hy0 eA eB HA0 HB0
        go_upto_region 38 with fail
        clear a8
        refine start_ (n := 11) (S := fun w_ => Below wr.heap.size wr w_) (ds := []) #[false, false, false, false, false, false, false, false, false, false, false] (by kernel_rfl) rfl rfl (drew_below wr) (fun hHeld => ?_)
        have HH := Aside0.mk hHeld
        clear hHeld
        generalize wr.drew = wv at HH ⊢
        refine seq_start (n := 11) [] (by kernel_rfl) (by rfl) (fun HSQ => ?_)
        refine seqp_ (v := ?_) (a' := ?_) HSQ.out rfl rfl rfl (fun _ _ _ h => h) (Or.inl ⟨by rfl, ?_⟩) ?_ ?_
        rotate_left
        ·intro w_
         go_simp
         with_reducible rfl
        rotate_left
        ·simp only [Act.put, List.setIfInBounds_toArray, List.set_cons_zero, List.set_cons_succ, i64_w, i32_w]
         rfl
        refine seqt_ (v := ?_) (a' := ?_) HSQ.out rfl rfl rfl (by kernel_rfl) (fun _ _ _ h => h) (Or.inl ⟨by rfl, ?_⟩) HH.out ?_ ?_
        rotate_left
        ·rintro w_ s
         have a8 := (HA.out.below s).q8; rw [EA.out] at a8; have b8 := (HB.out.below s).q8; rw [EB.out] at b8
         go_simp
         with_reducible rfl
        rotate_left
        ·simp only [Act.put, List.setIfInBounds_toArray, List.set_cons_zero, List.set_cons_succ, i64_w, i32_w]
         rfl
        iterate 2
         refine seqp_ (v := ?_) (a' := ?_) HSQ.out rfl rfl rfl (fun _ _ _ h => h) (Or.inl ⟨by rfl, ?_⟩) ?_ ?_
         rotate_left
         ·intro w_
          go_simp
          with_reducible rfl
         rotate_left
         ·simp only [Act.put, List.setIfInBounds_toArray, List.set_cons_zero, List.set_cons_succ, i64_w, i32_w]
          rfl
        refine seqt_ (i := 4) (N := 256) (v := ?_) (a' := ?_) HSQ.out rfl rfl rfl (by kernel_rfl) (fun _ _ _ h => h) (Or.inl ⟨by rfl, ?_⟩) HH.out ?_ ?_
        rotate_left
        ·rintro w_ s
         refine run113 (HAX.out.below s) (.tmp 255) ?_ ?_ <;> rfl
        rotate_left
        ·simp only [Act.put, List.setIfInBounds_toArray, List.set_cons_zero, List.set_cons_succ, i64_w, i32_w]
         rfl
        refine seqp_ (v := ?_) (a' := ?_) HSQ.out rfl rfl rfl (fun _ _ _ h => h) (Or.inl ⟨by rfl, ?_⟩) ?_ ?_
        rotate_left
        ·intro w_
         go_simp
         with_reducible rfl
        rotate_left
        ·simp only [Act.put, List.setIfInBounds_toArray, List.set_cons_zero, List.set_cons_succ, i64_w, i32_w]
         rfl
        refine seqt_ (v := ?_) (a' := ?_) HSQ.out rfl rfl rfl (by kernel_rfl) (fun _ _ _ h => h) (Or.inl ⟨by rfl, ?_⟩) HH.out ?_ ?_
        rotate_left
        ·rintro w_ s
         have a8 := (HA.out.below s).q8; rw [EA.out] at a8; have b8 := (HB.out.below s).q8; rw [EB.out] at b8
         go_simp
         with_reducible rfl
        rotate_left
        ·simp only [Act.put, List.setIfInBounds_toArray, List.set_cons_zero, List.set_cons_succ, i64_w, i32_w]
         rfl
        iterate 2
         refine seqp_ (v := ?_) (a' := ?_) HSQ.out rfl rfl rfl (fun _ _ _ h => h) (Or.inl ⟨by rfl, ?_⟩) ?_ ?_
         rotate_left
         ·intro w_
          go_simp
          with_reducible rfl
         rotate_left
         ·simp only [Act.put, List.setIfInBounds_toArray, List.set_cons_zero, List.set_cons_succ, i64_w, i32_w]
          rfl
        refine seqt_ (i := 9) (N := 261) (v := ?_) (a' := ?_) HSQ.out rfl rfl rfl (by kernel_rfl) (fun _ _ _ h => h) (Or.inl ⟨by rfl, ?_⟩) HH.out ?_ ?_
        rotate_left
        ·rintro w_ s
         refine run113 (HAY.out.below s) (.tmp 260) ?_ ?_ <;> rfl
        rotate_left
        ·simp only [Act.put, List.setIfInBounds_toArray, List.set_cons_zero, List.set_cons_succ, i64_w, i32_w]
         rfl
        refine seqp_ (i := 10) (N := 262) (v := ?_) (a' := ?_) HSQ.out rfl rfl rfl (fun _ _ _ h => h) (Or.inl ⟨by rfl, ?_⟩) ?_ ?_
        rotate_left
        ·intro w_
         refine run_neq113 w_ x y (.tmp 256) (.tmp 261) ?_ ?_ ?_ <;> rfl
        rotate_left
        ·simp only [Act.put, List.setIfInBounds_toArray, List.set_cons_zero, List.set_cons_succ, i64_w, i32_w]
         rfl
        refine seqd_ HSQ.out ?_
        clear HSQ
        have HE2 := Aside0.mk (HE.out.trans (HH.out.mono HE.out.size))
        have HA2 := Aside0.mk (HA.out.below HH.out)
        have HB2 := Aside0.mk (HB.out.below HH.out)
        rcases he : eq113 x y with _ | _
        ·have HK := Aside0.mk (HNE.out (fun e => by rw [e, (eq113_iff y y).mpr rfl] at he; cases he))
         go_wp2_with fail
         go_ret
         exact ⟨ret_b (sameB_no HK.out), HE2.out⟩
        ·have HK := Aside0.mk (upto_eq HS.out HX0.out (HY0.out.trans ((eq113_iff x y).mp he).symm))
         go_wp2_with fail
         go_roundg (t.f8.length - (k + 1))
         case measure => have := HLT.out; omega
         case rel => exact ⟨k + 1, HLT.out, rfl, by go_num, HK, HE2, HA2, HB2⟩
       have hd : decide ((k : Int) < (t.f8.length : Int)) = false := decide_eq_false (by omega)
       have HF8 := Aside0.mk (show t.f8 = u.f8 from list_eq (HLE.out.2.2.2.2.2.2) (fun j hj => HS.out j (by omega)))
       as_aux_lemma =>
        clear HS hk
        go_wp2_with fail
        go_ret
        exact ⟨ret_b (show sameB t u = true from by unfold sameB; rw [HH6.out, HF2.out, HF3.out, HF4.out, HF5.out, HF6.out, HF7.out, HF8.out, (eqL_iff eq69_iff _ _).mpr rfl, (eqL_iff eq88_iff _ _).mpr rfl, (eqL_iff eq66_iff _ _).mpr rfl, (eqL_iff eq95_iff _ _).mpr rfl, (eqL_iff eq102_iff _ _).mpr rfl, (eqL_iff eq107_iff _ _).mpr rfl, (eqL_iff eq113_iff _ _).mpr rfl]; rfl), HE.out⟩
end Go.Proofs.Ytbgcemijihpakaa.XA
