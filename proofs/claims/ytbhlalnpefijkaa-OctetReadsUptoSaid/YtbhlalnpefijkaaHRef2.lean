/- the document's reader: the contract of Text. -/
import Derived.Test.YtbhlalnpefijkaaHRef
namespace Go.Proofs.Ytbhlalnpefijkaa
set_option linter.unusedVariables false
set_option linter.unusedSimpArgs false
open Go.RowKit Go.Proofs.YtbhlalnpefijkaaW.PrintWords Go.Proofs.YtbhlalnpefijkaaW.PrintLast Go.Proofs.YtbhlalnpefijkaaW.PrintMore Go.Proofs.Ytbhlalnpefijkaa.XC

theorem w64 (x : Int) (n : Nat) (h : x = n) (hn : n ≤ 140737488355328) : wrap64 x = n := by subst h; unfold wrap64; omega
theorem i64w (x : Int) (n : Nat) (h : x = n) (hn : n ≤ 140737488355328) : IntKind.i64.wrap x = n := by subst h; rw [IntKind.wrap_i64]; omega
/-- a cell of the bytes -/
theorem pt_byte {w : World} {A : Option Addr} {l : List Int} {a : Nat} {x : Int} {r : List Int} (h : (Kd.int .u8).C w A l.length l) (hd : l.drop a = x :: r) : ∃ ad, A = some ad ∧ w.cell? (ad.add a) = some (.int .u8 x) := by
  have hl : a < l.length := by
    rcases Nat.lt_or_ge a l.length with h | h
    · exact h
    · rw [List.drop_eq_nil_of_le h] at hd; cases hd
  obtain ⟨ad, e, hc⟩ := (Kd.reads_of_C (d := (0 : Int)) h).2.2 (by omega)
  refine ⟨ad, e, ?_⟩
  rw [hc a hl]
  rw [List.drop_eq_getElem_cons hl] at hd
  injection hd with h1 _
  rw [List.getD_eq_getElem?_getD, List.getElem?_eq_getElem hl, Option.getD_some, h1]
set_option maxRecDepth 1000000 in
set_option maxHeartbeats 1000000 in
theorem ptext_nil (B base : Nat) (l : List Int) (a : Nat) (w : World) (h : PtSt w base B l a) (hn : a = l.length) :
    Calls Try.prog 33 #[.pointer (some ⟨B, 0, none⟩)] w fun e w' => e = .returned (.tuple #[.string ⟨#[]⟩, .int .i64 10]) ∧ Below w.heap.size w w' := by
  obtain ⟨A, c, h0, h1, _, _, h3, h4, ha, hC⟩ := h.cells
  obtain ⟨L, hL⟩ : ∃ L, l.length = L := ⟨_, rfl⟩
  rw [hL] at h0 h3 h4 hn
  subst hn
  have e1 : IntKind.i64.wrap ((a : Int) - a) = 0 := by rw [IntKind.wrap_i64]; omega
  have e0 : (a : Int) - a = 0 := by omega
  clear h hC hL ha
  go_enter Try.func33, Try.ntmps33
  go_wp2_with fail
  repeat (go_quiet (fail))
  have HB1 := Aside0.mk (below_drewN (Below.refl w.heap.size w) nq)
  generalize w.drewN nq = w1 at *
  go_wp2_with fail
  repeat (go_quiet (fail))
  have HB2 := Aside0.mk (HB1.out.trans ((below_drewN (Below.refl w1.heap.size w1) nq).mono HB1.out.size))
  generalize w1.drewN nq = w2 at *
  go_wp2_with fail
  go_ret2
  exact ⟨rfl, HB2.out⟩
set_option maxRecDepth 1000000 in
set_option maxHeartbeats 1000000 in
theorem ptext_short (B base : Nat) (l : List Int) (a m : Nat) (r : List Int) (w : World) (h : PtSt w base B l a) (hd : l.drop a = (m : Int) :: r) (hm : m ≤ 255) (hs : r.length < m) :
    Calls Try.prog 33 #[.pointer (some ⟨B, 0, none⟩)] w fun e w' => e = .returned (.tuple #[.string ⟨#[]⟩, .int .i64 10]) ∧ Below w.heap.size w w' := by
  obtain ⟨A, c, h0, h1, f0, f1, h3, h4, ha, hC⟩ := h.cells
  obtain ⟨ad, rfl, hx⟩ := pt_byte hC hd
  have hlen : l.length - a = r.length + 1 := by rw [← List.length_drop, hd]; rfl
  obtain ⟨L, hL⟩ : ∃ L, l.length = L := ⟨_, rfl⟩
  rw [hL] at h0 h3 h4 hlen ha
  have e1 : IntKind.i64.wrap ((L : Int) - a) = L - a := by rw [IntKind.wrap_i64]; omega
  have e2 : decide ((L : Int) - a < 1) = false := decide_eq_false (by omega)
  have e3 : IntKind.i64.wrap ((L : Int) - a - 1) = L - a - 1 := by rw [IntKind.wrap_i64]; omega
  have e4 : decide ((L : Int) - a - 1 < m) = true := decide_eq_true (by omega)
  have e5 : IntKind.i64.wrap (m : Int) = m := by rw [IntKind.wrap_i64]; omega
  have e6 : (a < L) = True := eq_true (by omega)
  have e7 : decide ((a : Int) < L) = true := decide_eq_true (by omega)
  clear h hC hL ha hd hs hlen
  go_enter Try.func33, Try.ntmps33
  go_wp2_with fail
  repeat (go_quiet (fail))
  have HB1 := Aside0.mk (below_drewN (Below.refl w.heap.size w) nq)
  replace hx := pw_cell_below HB1.out hx
  replace h0 := pw_cell_below HB1.out h0
  replace h1 := pw_cell_below HB1.out h1
  generalize w.drewN nq = w1 at *
  go_wp2_with fail
  repeat (go_quiet (fail))
  have HB2 := Aside0.mk (HB1.out.trans ((below_drewN (Below.refl w1.heap.size w1) nq).mono HB1.out.size))
  generalize w1.drewN nq = w2 at *
  go_wp2_with fail
  go_ret2
  exact ⟨rfl, HB2.out⟩
set_option maxRecDepth 1000000 in
set_option maxHeartbeats 1000000 in
theorem ptext_bad (kp : Nat) (B base : Nat) (l : List Int) (a b m : Nat) (r : List Int) (w : World) (h : PtSt w base B l a) (hd : l.drop a = (m : Int) :: r) (hm : m ≤ 255) (hs : m ≤ r.length) (hab : b = a + 1 + m) (hpl : tappetref01_Plain.f kp (strOfNums (r.take m)) = some (plainB (strOfNums (r.take m)))) (hp : plainB (strOfNums (r.take m)) = false) :
    Calls Try.prog 33 #[.pointer (some ⟨B, 0, none⟩)] w fun e w' => e = .returned (.tuple #[.string ⟨#[]⟩, .int .i64 12]) ∧ Below w.heap.size w w' := by
  obtain ⟨A, c, h0, h1, f0, f1, h3, h4, ha, hC⟩ := h.cells
  obtain ⟨ad, rfl, hx⟩ := pt_byte hC hd
  have hlen : l.length - a = r.length + 1 := by rw [← List.length_drop, hd]; rfl
  have HBL := Aside0.mk (show b ≤ l.length by omega)
  have HST := Aside0.mk h
  obtain ⟨A1, c1, hcut⟩ := cut_at (bs := r.take m) (a := a + 1) (b := b) hC h3 (by omega) (by omega) (by
    have : l.drop (a + 1) = r := by rw [← List.drop_drop, hd]; rfl
    rw [this, hab]
    congr 1
    omega)
  have hbl : (r.take m).length = m := by rw [List.length_take]; omega
  have hq := hcut.cut
  rw [hbl] at hq
  have hr := hcut.read
  rw [hbl] at hr
  have HCV := Aside0.mk (show ∀ W, Below w.heap.size w W → (convert 23 9 (.slice A1 m c1)).run Try.prog W = .ok (.string (strOfNums (r.take m))) W from fun W hB => by
    have hz := Kd.C_string (P := Try.prog) (src := 23) (dst := 9) (e := 5) (c := c1) (by kernel_rfl) (by kernel_rfl) (by kernel_rfl) (hr W hB)
    exact hz)
  clear hcut hr hbl
  obtain ⟨L, hL⟩ : ∃ L, l.length = L := ⟨_, rfl⟩
  rw [hL] at h0 h3 h4 hlen ha hq
  have e1 : IntKind.i64.wrap ((L : Int) - a) = L - a := by rw [IntKind.wrap_i64]; omega
  have e2 : decide ((L : Int) - a < 1) = false := decide_eq_false (by omega)
  have e3 : IntKind.i64.wrap ((L : Int) - a - 1) = L - a - 1 := by rw [IntKind.wrap_i64]; omega
  have e4 : decide ((L : Int) - a - 1 < m) = false := decide_eq_false (by omega)
  have e5 : IntKind.i64.wrap (m : Int) = m := by rw [IntKind.wrap_i64]; omega
  have e6 : (a < L) = True := eq_true (by omega)
  have e7 : decide ((a : Int) < L) = true := decide_eq_true (by omega)
  have hbb : b ≤ 140737488355328 := by omega
  have haa : a + 1 ≤ 140737488355328 := by omega
  have e8 : IntKind.i64.wrap ((a : Int) + 1) = ((a + 1 : Nat) : Int) := i64w _ _ rfl haa
  have e9 : IntKind.i64.wrap (((a + 1 : Nat) : Int) + m) = b := i64w _ _ (by rw [hab]; rfl) hbb
  have e8b : wrap64 ((a : Int) + 1) = ((a + 1 : Nat) : Int) := w64 _ _ rfl haa
  have e9b : wrap64 (((a + 1 : Nat) : Int) + m) = b := w64 _ _ (by rw [hab]; rfl) hbb
  clear h hC hL ha hd hs hlen hab
  obtain ⟨a1, ha1⟩ : ∃ a1, a + 1 = a1 := ⟨_, rfl⟩
  rw [ha1] at e8 e9 e8b e9b hq
  clear ha1
  generalize strOfNums (r.take m) = s at *
  go_enter Try.func33, Try.ntmps33
  go_wp2_with fail
  repeat (go_quiet (fail))
  have HB1 := Aside0.mk (below_drewN (Below.refl w.heap.size w) nq)
  replace hx := pw_cell_below HB1.out hx
  obtain ⟨k0, k1, k2, k3⟩ := pt_kept HB1.out h0 h1 f0 f1 (pt_lt HST.out)
  clear h0 h1 f0 f1
  generalize w.drewN nq = w1 at *
  go_wp2_with fail
  repeat (go_quiet (fail))
  have HBx := Aside0.mk (below_drewN (Below.refl w1.heap.size w1) nq)
  have HB2 := Aside0.mk (HB1.out.trans (HBx.out.mono HB1.out.size))
  replace hx := pw_cell_below HBx.out hx
  have HL1 := Aside0.mk (pt_lt (HST.out.below HB1.out))
  obtain ⟨j0, j1, j2, j3⟩ := pt_kept HBx.out k0 k1 k2 k3 HL1.out
  clear k0 k1 k2 k3 HBx HL1 HB1
  generalize w1.drewN nq = w2 at *
  go_wp2_with fail
  repeat (go_quiet (fail))
  have HBx := Aside0.mk (below_drewN (Below.refl w2.heap.size w2) nq)
  have HB3 := Aside0.mk (HB2.out.trans (HBx.out.mono HB2.out.size))
  replace hx := pw_cell_below HBx.out hx
  have HL1 := Aside0.mk (pt_lt (HST.out.below HB2.out))
  obtain ⟨k0, k1, k2, k3⟩ := pt_kept HBx.out j0 j1 j2 j3 HL1.out
  clear j0 j1 j2 j3 HBx HL1 HB2
  generalize w2.drewN nq = w3 at *
  have hcv := fun n => HCV.out (w3.drewN n) (HB3.out.trans ((below_drewN (Below.refl w3.heap.size w3) n).mono HB3.out.size))
  go_wp2_with fail
  repeat (go_quiet (fail))
  have HBx := Aside0.mk (below_drewN (Below.refl w3.heap.size w3) nq)
  have HB4 := Aside0.mk (HB3.out.trans (HBx.out.mono HB3.out.size))
  have HL1 := Aside0.mk (pt_lt (HST.out.below HB3.out))
  obtain ⟨j0, j1, j2, j3⟩ := pt_kept HBx.out k0 k1 k2 k3 HL1.out
  clear k0 k1 k2 k3 HBx HL1 HB3 hcv hx
  generalize w3.drewN nq = w4 at *
  go_wp2_with fail
  refine (tappetref01_Plain.calls kp s (plainB s) _ hpl).mono ?_
  rintro e w5 ⟨rfl, ⟨n5, rfl⟩⟩
  rw [hp]
  have HBx := Aside0.mk (below_drewN (Below.refl w4.heap.size w4) n5)
  have HB5 := Aside0.mk (HB4.out.trans (HBx.out.mono HB4.out.size))
  have HL1 := Aside0.mk (pt_lt (HST.out.below HB4.out))
  obtain ⟨k0, k1, k2, k3⟩ := pt_kept HBx.out j0 j1 j2 j3 HL1.out
  clear j0 j1 j2 j3 HBx HL1 HB4
  generalize w4.drewN n5 = w6 at *
  go_wp2_with fail
  go_ret2
  exact ⟨rfl, HB5.out⟩
set_option maxRecDepth 1000000 in
set_option maxHeartbeats 1000000 in
theorem ptext_yes (kp : Nat) (B base : Nat) (l : List Int) (a b m : Nat) (r : List Int) (w : World) (h : PtSt w base B l a) (hd : l.drop a = (m : Int) :: r) (hm : m ≤ 255) (hs : m ≤ r.length) (hab : b = a + 1 + m) (hpl : tappetref01_Plain.f kp (strOfNums (r.take m)) = some (plainB (strOfNums (r.take m)))) (hp : plainB (strOfNums (r.take m)) = true) :
    Calls Try.prog 33 #[.pointer (some ⟨B, 0, none⟩)] w fun e w' => e = .returned (.tuple #[.string (strOfNums (r.take m)), .int .i64 0]) ∧ PtSt w' base B l b ∧ RdOnly w w' B := by
  obtain ⟨A, c, h0, h1, f0, f1, h3, h4, ha, hC⟩ := h.cells
  obtain ⟨ad, rfl, hx⟩ := pt_byte hC hd
  have hlen : l.length - a = r.length + 1 := by rw [← List.length_drop, hd]; rfl
  have HBL := Aside0.mk (show b ≤ l.length by omega)
  have HST := Aside0.mk h
  obtain ⟨A1, c1, hcut⟩ := cut_at (bs := r.take m) (a := a + 1) (b := b) hC h3 (by omega) (by omega) (by
    have : l.drop (a + 1) = r := by rw [← List.drop_drop, hd]; rfl
    rw [this, hab]
    congr 1
    omega)
  have hbl : (r.take m).length = m := by rw [List.length_take]; omega
  have hq := hcut.cut
  rw [hbl] at hq
  have hr := hcut.read
  rw [hbl] at hr
  have HCV := Aside0.mk (show ∀ W, Below w.heap.size w W → (convert 23 9 (.slice A1 m c1)).run Try.prog W = .ok (.string (strOfNums (r.take m))) W from fun W hB => by
    have hz := Kd.C_string (P := Try.prog) (src := 23) (dst := 9) (e := 5) (c := c1) (by kernel_rfl) (by kernel_rfl) (by kernel_rfl) (hr W hB)
    exact hz)
  clear hcut hr hbl
  obtain ⟨L, hL⟩ : ∃ L, l.length = L := ⟨_, rfl⟩
  rw [hL] at h0 h3 h4 hlen ha hq
  have e1 : IntKind.i64.wrap ((L : Int) - a) = L - a := by rw [IntKind.wrap_i64]; omega
  have e2 : decide ((L : Int) - a < 1) = false := decide_eq_false (by omega)
  have e3 : IntKind.i64.wrap ((L : Int) - a - 1) = L - a - 1 := by rw [IntKind.wrap_i64]; omega
  have e4 : decide ((L : Int) - a - 1 < m) = false := decide_eq_false (by omega)
  have e5 : IntKind.i64.wrap (m : Int) = m := by rw [IntKind.wrap_i64]; omega
  have e6 : (a < L) = True := eq_true (by omega)
  have e7 : decide ((a : Int) < L) = true := decide_eq_true (by omega)
  have hbb : b ≤ 140737488355328 := by omega
  have haa : a + 1 ≤ 140737488355328 := by omega
  have e8 : IntKind.i64.wrap ((a : Int) + 1) = ((a + 1 : Nat) : Int) := i64w _ _ rfl haa
  have e9 : IntKind.i64.wrap (((a + 1 : Nat) : Int) + m) = b := i64w _ _ (by rw [hab]; rfl) hbb
  have e8b : wrap64 ((a : Int) + 1) = ((a + 1 : Nat) : Int) := w64 _ _ rfl haa
  have e9b : wrap64 (((a + 1 : Nat) : Int) + m) = b := w64 _ _ (by rw [hab]; rfl) hbb
  clear h hC hL ha hd hs hlen hab
  obtain ⟨a1, ha1⟩ : ∃ a1, a + 1 = a1 := ⟨_, rfl⟩
  rw [ha1] at e8 e9 e8b e9b hq
  clear ha1
  generalize strOfNums (r.take m) = s at *
  go_enter Try.func33, Try.ntmps33
  go_wp2_with fail
  repeat (go_quiet (fail))
  have HB1 := Aside0.mk (below_drewN (Below.refl w.heap.size w) nq)
  replace hx := pw_cell_below HB1.out hx
  obtain ⟨k0, k1, k2, k3⟩ := pt_kept HB1.out h0 h1 f0 f1 (pt_lt HST.out)
  clear h0 h1 f0 f1
  generalize w.drewN nq = w1 at *
  go_wp2_with fail
  repeat (go_quiet (fail))
  have HBx := Aside0.mk (below_drewN (Below.refl w1.heap.size w1) nq)
  have HB2 := Aside0.mk (HB1.out.trans (HBx.out.mono HB1.out.size))
  replace hx := pw_cell_below HBx.out hx
  have HL1 := Aside0.mk (pt_lt (HST.out.below HB1.out))
  obtain ⟨j0, j1, j2, j3⟩ := pt_kept HBx.out k0 k1 k2 k3 HL1.out
  clear k0 k1 k2 k3 HBx HL1 HB1
  generalize w1.drewN nq = w2 at *
  go_wp2_with fail
  repeat (go_quiet (fail))
  have HBx := Aside0.mk (below_drewN (Below.refl w2.heap.size w2) nq)
  have HB3 := Aside0.mk (HB2.out.trans (HBx.out.mono HB2.out.size))
  replace hx := pw_cell_below HBx.out hx
  have HL1 := Aside0.mk (pt_lt (HST.out.below HB2.out))
  obtain ⟨k0, k1, k2, k3⟩ := pt_kept HBx.out j0 j1 j2 j3 HL1.out
  clear j0 j1 j2 j3 HBx HL1 HB2
  generalize w2.drewN nq = w3 at *
  have hcv := fun n => HCV.out (w3.drewN n) (HB3.out.trans ((below_drewN (Below.refl w3.heap.size w3) n).mono HB3.out.size))
  go_wp2_with fail
  repeat (go_quiet (fail))
  have HBx := Aside0.mk (below_drewN (Below.refl w3.heap.size w3) nq)
  have HB4 := Aside0.mk (HB3.out.trans (HBx.out.mono HB3.out.size))
  have HL1 := Aside0.mk (pt_lt (HST.out.below HB3.out))
  obtain ⟨j0, j1, j2, j3⟩ := pt_kept HBx.out k0 k1 k2 k3 HL1.out
  clear k0 k1 k2 k3 HBx HL1 HB3 hcv hx
  generalize w3.drewN nq = w4 at *
  go_wp2_with fail
  refine (tappetref01_Plain.calls kp s (plainB s) _ hpl).mono ?_
  rintro e w5 ⟨rfl, ⟨n5, rfl⟩⟩
  rw [hp]
  have HBx := Aside0.mk (below_drewN (Below.refl w4.heap.size w4) n5)
  have HB5 := Aside0.mk (HB4.out.trans (HBx.out.mono HB4.out.size))
  have HL1 := Aside0.mk (pt_lt (HST.out.below HB4.out))
  obtain ⟨k0, k1, k2, k3⟩ := pt_kept HBx.out j0 j1 j2 j3 HL1.out
  clear j0 j1 j2 j3 HBx HL1 HB4
  generalize w4.drewN n5 = w6 at *
  go_wp2_with fail
  go_ret2
  exact ⟨rfl, pt_move (HST.out.below HB5.out) HBL.out, only_set HB5.out _⟩
theorem ptext_calls (kp : Nat) (B base : Nat) (l : List Int) (a : Nat) (w : World) (h : PtSt w base B l a) (hby : ∀ x ∈ l, 0 ≤ x ∧ x ≤ 255) (s : ByteArray) (er : Int) (bs' : List Int) (hr : textR (l.drop a) = (s, er, bs')) (hpl : ∀ s : ByteArray, s.size ≤ 255 → tappetref01_Plain.f kp s = some (plainB s)) :
    Calls Try.prog 33 #[.pointer (some ⟨B, 0, none⟩)] w fun e w' => e = .returned (.tuple #[.string s, .int .i64 er]) ∧ (∃ b, PtSt w' base B l b ∧ bs' = l.drop b) ∧ RdOnly w w' B := by
  obtain ⟨_, _, _, _, _, _, _, _, ha, _⟩ := h.cells
  rcases hd : l.drop a with _ | ⟨x, r⟩
  · rw [hd] at hr
    simp only [textR, Prod.mk.injEq] at hr
    obtain ⟨rfl, rfl, rfl⟩ := hr
    have hn : a = l.length := by
      have := congrArg List.length hd
      rw [List.length_drop] at this
      simp at this
      omega
    refine (ptext_nil B base l a w h hn).mono ?_
    rintro e w' ⟨rfl, hB⟩
    exact ⟨rfl, ⟨a, h.below hB, hd.symm⟩, only_below hB⟩
  · have hxm : x ∈ l := List.mem_of_mem_drop (by rw [hd]; exact List.mem_cons_self)
    obtain ⟨m, rfl⟩ := Int.eq_ofNat_of_zero_le (hby x hxm).1
    have hm := (hby _ hxm).2
    rw [hd] at hr
    unfold textR at hr
    simp only at hr
    have hdr : l.drop (a + 1) = r := by rw [← List.drop_drop, hd]; rfl
    by_cases h1 : (r.length : Int) < (m : Int)
    · rw [if_pos h1] at hr
      simp only [Prod.mk.injEq] at hr
      obtain ⟨rfl, rfl, rfl⟩ := hr
      refine (ptext_short B base l a m r w h hd (by omega) (by omega)).mono ?_
      rintro e w' ⟨rfl, hB⟩
      exact ⟨rfl, ⟨a, h.below hB, hd.symm⟩, only_below hB⟩
    · rw [if_neg h1] at hr
      rw [show ((m : Int)).toNat = m from Int.toNat_natCast m] at hr
      have hpp := hpl (strOfNums (r.take m)) (by rw [strOfNums_size, List.length_take]; omega)
      cases hp : plainB (strOfNums (r.take m)) with
      | true =>
        rw [if_pos hp] at hr
        simp only [Prod.mk.injEq] at hr
        obtain ⟨rfl, rfl, rfl⟩ := hr
        refine (ptext_yes kp B base l a (a + 1 + m) m r w h hd (by omega) (by omega) rfl hpp hp).mono ?_
        rintro e w' ⟨rfl, hS, hO⟩
        exact ⟨rfl, ⟨_, hS, by rw [← List.drop_drop, hdr]⟩, hO⟩
      | false =>
        rw [if_neg (by rw [hp]; simp)] at hr
        simp only [Prod.mk.injEq] at hr
        obtain ⟨rfl, rfl, rfl⟩ := hr
        refine (ptext_bad kp B base l a (a + 1 + m) m r w h hd (by omega) (by omega) rfl hpp hp).mono ?_
        rintro e w' ⟨rfl, hB⟩
        exact ⟨rfl, ⟨a, h.below hB, hd.symm⟩, only_below hB⟩
end Go.Proofs.Ytbhlalnpefijkaa
