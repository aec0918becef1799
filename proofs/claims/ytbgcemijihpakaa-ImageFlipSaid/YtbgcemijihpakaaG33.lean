/- plain: each row that is written is read again. -/
import Derived.Test.YtbgcemijihpakaaG32
section
namespace Go.Proofs.Ytbgcemijihpakaa.XA
set_option linter.unusedVariables false
set_option linter.unusedSimpArgs false
open Go.RowKit Go.WideMaps Go.Maps Go.Proofs.YtbgcemijihpakaaW.PrintWords Go.Proofs.YtbgcemijihpakaaW.PrintLast Go.Proofs.YtbgcemijihpakaaW.PrintMore
def By (x : Int) : Prop := 0 ≤ x ∧ x ≤ 255
def W4 (x : Int) : Prop := 0 ≤ x ∧ x < 4294967296
theorem g1 {x : Int} (h : By x) (r : List Int) : pGet 1 (leN 1 x ++ r) = .ok (x, r) := pGet_leN h.1 (by have := h.2; omega) r
theorem g4 {x : Int} (h : W4 x) (r : List Int) : pGet 4 (leN 4 x ++ r) = .ok (x, r) := pGet_leN h.1 (by have := h.2; omega) r
theorem ring_back {x : S88} (h0 : By x.f0) (h1 : 0 ≤ x.f1 ∧ x.f1 < 65536) (r : List Int) : pRing (encRing x ++ r) = .ok (x, r) := by
 unfold pRing encRing bytes1
 simp only [List.flatMap_cons, List.flatMap_nil, List.append_nil, List.append_assoc]
 rw [pBind_ok (g1 h0 _), pBind_ok (pGet_leN h1.1 (by have := h1.2; omega) _)]
 rfl
theorem ctr_back {x : S95} (h0 : W4 x.f0) (h1 : W4 x.f1) (h2 : W4 x.f2) (r : List Int) : pCtr (encCtr x ++ r) = .ok (x, r) := by
 unfold pCtr encCtr
 simp only [List.flatMap_cons, List.flatMap_nil, List.append_nil, List.append_assoc]
 rw [pBind_ok (g4 h0 _), pBind_ok (g4 h1 _), pBind_ok (g4 h2 _)]
 rfl
theorem act_back {x : S100} (h0 : By x.f0) (h1 : By x.f1) (h2 : W4 x.f2) (r : List Int) : pAct (actL x ++ r) = .ok (x, r) := by
 unfold pAct actL bytes1
 simp only [List.flatMap_cons, List.flatMap_nil, List.append_nil, List.append_assoc]
 rw [pBind_ok (g1 h0 _), pBind_ok (g1 h1 _), pBind_ok (g4 h2 _)]
 rfl
theorem alm_back {x : S102} (h0 : By x.f0) (ha : By x.f1.f0 ∧ By x.f1.f1 ∧ W4 x.f1.f2) (h2 : By x.f2) (h3 : W4 x.f3) (h4 : W4 x.f4) (r : List Int) : pAlm (encAlm x ++ r) = .ok (x, r) := by
 unfold pAlm encAlm bytes1
 simp only [List.flatMap_cons, List.flatMap_nil, List.append_nil, List.append_assoc]
 rw [pBind_ok (g1 h0 _), pBind_ok (act_back ha.1 ha.2.1 ha.2.2 _), pBind_ok (g1 h2 _), pBind_ok (g4 h3 _), pBind_ok (g4 h4 _)]
 rfl
theorem msg_back {x : S113} (h0 : By x.f0) (h1 : By x.f1) (h2 : By x.f2) (h3 : 0 ≤ x.f3 ∧ x.f3 < 18446744073709551616) (h4 : By x.f4) (ha : By x.f5.f0 ∧ By x.f5.f1 ∧ W4 x.f5.f2) (r : List Int) : pMsg (encMsg x ++ r) = .ok (x, r) := by
 unfold pMsg encMsg bytes1
 simp only [List.flatMap_cons, List.flatMap_nil, List.append_nil, List.append_assoc]
 rw [pBind_ok (g1 h0 _), pBind_ok (g1 h1 _), pBind_ok (g1 h2 _), pBind_ok (pGet_leN h3.1 (by have := h3.2; omega) _), pBind_ok (g1 h4 _), pBind_ok (act_back ha.1 ha.2.1 ha.2.2 _)]
 rfl
end Go.Proofs.Ytbgcemijihpakaa.XA
end
section
namespace Go.Proofs.Ytbgcemijihpakaa.XA
set_option linter.unusedVariables false
set_option linter.unusedSimpArgs false
open Go.RowKit Go.WideMaps Go.Maps Go.Proofs.YtbgcemijihpakaaW.PrintWords Go.Proofs.YtbgcemijihpakaaW.PrintLast Go.Proofs.YtbgcemijihpakaaW.PrintMore
theorem list_back {l : List Int} (hl : l.length ≤ 255) (h : ∀ x ∈ l, By x) (r : List Int) : pList (listL l ++ r) = .ok (l, r) := by
 unfold pList listL bytes1
 simp only [List.flatMap_cons, List.flatMap_nil, List.append_nil, List.append_assoc]
 rw [g1 (x := (l.length : Int)) ⟨by omega, by omega⟩]
 simp only [Int.toNat_natCast]
 exact pReps_flat l r (fun x hx r => g1 (h x hx) r)
theorem flag_by (b : Bool) : By (if b then 1 else 0) := by cases b <;> exact ⟨by decide, by decide⟩
theorem res_back {x : S66} (h1 : By (x.f1 + 1)) (r : List Int) : pRes (encRes x ++ r) = .ok (x, r) := by
 unfold pRes encRes flagL bytes1
 simp only [List.flatMap_cons, List.flatMap_nil, List.append_nil, List.append_assoc]
 rw [pBind_ok (g1 (flag_by x.f0) _), pBind_ok (g1 h1 _)]
 obtain ⟨b, y⟩ := x
 have : y + 1 - 1 = y := by omega
 cases b <;> simp [pRet, this]
theorem isr_back {x : S107} (h0 : By x.f0) (h1 : By x.f1) (hl : x.f2.length ≤ 255) (h : ∀ y ∈ x.f2, By y) (r : List Int) : pIsr (encIsr x ++ r) = .ok (x, r) := by
 have hb := list_back hl h r
 unfold pIsr encIsr
 rw [List.append_assoc]
 generalize listL x.f2 ++ r = q at *
 unfold bytes1
 simp only [List.flatMap_cons, List.flatMap_nil, List.append_nil, List.append_assoc]
 rw [pBind_ok (g1 h0 _), pBind_ok (g1 h1 _), pBind_ok hb]
 rfl
theorem task_back {x : S69} (h0 : By x.f0) (h1 : By x.f1) (h3 : By x.f3) (h4 : W4 x.f4) (h5 : By (x.f5 + 1)) (hl : x.f6.length ≤ 255) (h6 : ∀ y ∈ x.f6, By y) (h7 : By x.f7) (r : List Int) : pTask (encTask x ++ r) = .ok (x, r) := by
 have hb := list_back hl h6 (leN 1 x.f7 ++ r)
 unfold pTask encTask
 simp only [List.append_assoc]
 generalize listL x.f6 ++ (leN 1 x.f7 ++ r) = q at *
 unfold flagL bytes1
 simp only [List.flatMap_cons, List.flatMap_nil, List.append_nil, List.append_assoc]
 rw [pBind_ok (g1 h0 _), pBind_ok (g1 h1 _), pBind_ok (g1 (flag_by x.f2) _), pBind_ok (g1 h3 _), pBind_ok (g4 h4 _), pBind_ok (g1 h5 _), pBind_ok hb, pBind_ok (g1 h7 _)]
 obtain ⟨a0, a1, b, a3, a4, y, l, a7⟩ := x
 have : y + 1 - 1 = y := by omega
 cases b <;> simp [pRet, this]
end Go.Proofs.Ytbgcemijihpakaa.XA
end
section
namespace Go.Proofs.Ytbgcemijihpakaa.XA
set_option linter.unusedVariables false
set_option linter.unusedSimpArgs false
open Go.RowKit Go.WideMaps Go.Maps Go.Proofs.YtbgcemijihpakaaW.PrintWords Go.Proofs.YtbgcemijihpakaaW.PrintLast Go.Proofs.YtbgcemijihpakaaW.PrintMore
structure OkImg (t : S33) : Prop where
 tk : ∀ x ∈ t.f2, By x.f0 ∧ By x.f1 ∧ By x.f3 ∧ W4 x.f4 ∧ By (x.f5 + 1) ∧ x.f6.length ≤ 255 ∧ (∀ y ∈ x.f6, By y) ∧ By x.f7
 rg : ∀ x ∈ t.f3, By x.f0 ∧ 0 ≤ x.f1 ∧ x.f1 < 65536
 rs : ∀ x ∈ t.f4, By (x.f1 + 1)
 ct : ∀ x ∈ t.f5, W4 x.f0 ∧ W4 x.f1 ∧ W4 x.f2
 al : ∀ x ∈ t.f6, By x.f0 ∧ (By x.f1.f0 ∧ By x.f1.f1 ∧ W4 x.f1.f2) ∧ By x.f2 ∧ W4 x.f3 ∧ W4 x.f4
 is : ∀ x ∈ t.f7, By x.f0 ∧ By x.f1 ∧ x.f2.length ≤ 255 ∧ ∀ y ∈ x.f2, By y
 ms : ∀ x ∈ t.f8, By x.f0 ∧ By x.f1 ∧ By x.f2 ∧ (0 ≤ x.f3 ∧ x.f3 < 18446744073709551616) ∧ By x.f4 ∧ By x.f5.f0 ∧ By x.f5.f1 ∧ W4 x.f5.f2
def headOf (t : S33) (s : Int) : HeadP := ⟨s, cntsL t, t.f0, t.f1, t.f9, t.f10, t.f11, t.f12⟩
theorem rows_back {t : S33} (h : OkImg t) (s : Int) : pRows (headOf t s) (encBody t) = .ok (t, []) := by
 have c0 : cntP (cntsL t) 0 = t.f2.length := by simp [cntP, cntsL]
 have c1 : cntP (cntsL t) 1 = t.f3.length := by simp [cntP, cntsL]
 have c2 : cntP (cntsL t) 2 = t.f4.length := by simp [cntP, cntsL]
 have c3 : cntP (cntsL t) 3 = t.f5.length := by simp [cntP, cntsL]
 have c4 : cntP (cntsL t) 4 = t.f6.length := by simp [cntP, cntsL]
 have c5 : cntP (cntsL t) 5 = t.f7.length := by simp [cntP, cntsL]
 have c6 : cntP (cntsL t) 6 = t.f8.length := by simp [cntP, cntsL]
 have b2 := fun r => pReps_flat (p := pTask) (en := encTask) t.f2 r (fun x hx r => by obtain ⟨a, b, c, d, e, f, g, i⟩ := h.tk x hx; exact task_back a b c d e f g i r)
 have b3 := fun r => pReps_flat (p := pRing) (en := encRing) t.f3 r (fun x hx r => by obtain ⟨a, b, c⟩ := h.rg x hx; exact ring_back a ⟨b, c⟩ r)
 have b4 := fun r => pReps_flat (p := pRes) (en := encRes) t.f4 r (fun x hx r => res_back (h.rs x hx) r)
 have b5 := fun r => pReps_flat (p := pCtr) (en := encCtr) t.f5 r (fun x hx r => by obtain ⟨a, b, c⟩ := h.ct x hx; exact ctr_back a b c r)
 have b6 := fun r => pReps_flat (p := pAlm) (en := encAlm) t.f6 r (fun x hx r => by obtain ⟨a, b, c, d, e⟩ := h.al x hx; exact alm_back a b c d e r)
 have b7 := fun r => pReps_flat (p := pIsr) (en := encIsr) t.f7 r (fun x hx r => by obtain ⟨a, b, c, d⟩ := h.is x hx; exact isr_back a b c d r)
 have b8 := fun r => pReps_flat (p := pMsg) (en := encMsg) t.f8 r (fun x hx r => by obtain ⟨a, b, c, d, e, f⟩ := h.ms x hx; exact msg_back a b c d e f r)
 have b8' := b8 []
 rw [List.append_nil] at b8'
 unfold pRows headOf encBody parts
 simp only [List.flatten_cons, List.flatten_nil, List.append_assoc, List.append_nil, c0, c1, c2, c3, c4, c5, c6]
 rw [pBind_ok (b2 _), pBind_ok (b3 _), pBind_ok (b4 _), pBind_ok (b5 _), pBind_ok (b6 _), pBind_ok (b7 _), pBind_ok b8']
 rfl
end Go.Proofs.Ytbgcemijihpakaa.XA
end
section
namespace Go.Proofs.Ytbgcemijihpakaa.XA
set_option linter.unusedVariables false
set_option linter.unusedSimpArgs false
open Go.RowKit Go.WideMaps Go.Maps Go.Proofs.YtbgcemijihpakaaW.PrintWords Go.Proofs.YtbgcemijihpakaaW.PrintLast Go.Proofs.YtbgcemijihpakaaW.PrintMore
theorem leN_full {n : Nat} {x : Int} (h : 0 ≤ x) (h1 : x < 256 ^ n) : (leN n x).length = n := by
 have e : (2 : Int) ^ (8 * n) = 256 ^ n := by rw [Int.pow_mul]; rfl
 unfold leN
 rw [if_pos (by rw [e]; exact Int.ediv_eq_zero_of_lt h h1)]
 simp
theorem leVal_leN {n : Nat} {x : Int} (h : 0 ≤ x) (h1 : x < 256 ^ n) : leVal (leN n x) = x := by
 have e : (2 : Int) ^ (8 * n) = 256 ^ n := by rw [Int.pow_mul]; rfl
 have hl : leN n x = (List.range n).map (fun i => x / 2 ^ (8 * i) % 256) := by
  unfold leN
  rw [if_pos (by rw [e]; exact Int.ediv_eq_zero_of_lt h h1)]
 rw [hl, leVal_range x h n, Int.emod_eq_of_lt h h1]
theorem img_back {t : S33} (h : OkImg t) (h0 : By t.f0) (h1 : By t.f1) (h9 : By t.f9) (h10 : By t.f10) (h11 : By t.f11) (h12 : By t.f12) (hc : ∀ x ∈ cntsL t, 0 ≤ x ∧ x < 65536)
  (hl : (encBody t).length ≤ 60000000) (ht : tabE t = 0) : imgP (imgL t) = .ok t := by
 have hrow := rows_back h (28 + (encBody t).length + 2)
 have hcl : ((cntsL t).flatMap (leN 2)).length = 14 := by
  have e : ∀ x ∈ cntsL t, (leN 2 x).length = 2 := fun x hx => leN_full (hc x hx).1 (by have := (hc x hx).2; omega)
  rw [List.length_flatMap, List.map_congr_left e]
  simp [cntsL]
 have hcr : ∀ r, pReps (pGet 2) 7 ((cntsL t).flatMap (leN 2) ++ r) = .ok (cntsL t, r) := fun r => by
  have := pReps_flat (p := pGet 2) (en := leN 2) (cntsL t) r (fun x hx r => pGet_leN (hc x hx).1 (by have := (hc x hx).2; omega) r)
  rwa [show (cntsL t).length = 7 from rfl] at this
 have hs : ∀ s, pSix s (cntsL t) (bytes1 [t.f0, t.f1, t.f9, t.f10, t.f11, t.f12]) = .ok (headOf t s, []) := fun s => by
  have g := fun (x : Int) (hx : By x) => g1 hx
  have g' := g1 h12 []
  rw [List.append_nil] at g'
  unfold pSix bytes1 headOf
  simp only [List.flatMap_cons, List.flatMap_nil, List.append_nil, List.append_assoc]
  rw [pBind_ok (g1 h0 _), pBind_ok (g1 h1 _), pBind_ok (g1 h9 _), pBind_ok (g1 h10 _), pBind_ok (g1 h11 _), pBind_ok g']
  rfl
 have hsl : (bytes1 [t.f0, t.f1, t.f9, t.f10, t.f11, t.f12]).length = 6 := by
  unfold bytes1
  simp only [List.flatMap_cons, List.flatMap_nil, List.length_append, List.length_nil]
  rw [leN_full h0.1 (by have := h0.2; omega), leN_full h1.1 (by have := h1.2; omega), leN_full h9.1 (by have := h9.2; omega), leN_full h10.1 (by have := h10.2; omega), leN_full h11.1 (by have := h11.2; omega), leN_full h12.1 (by have := h12.2; omega)]
 have hL : (leN 4 (28 + (encBody t).length + 2)).length = 4 := leN_full (by omega) (by omega)
 have hG : ∀ r, pGet 4 (leN 4 (28 + (encBody t).length + 2) ++ r) = .ok (28 + ((encBody t).length : Int) + 2, r) := fun r => pGet_leN (by omega) (by omega) r
 have hcb := crcL_bd (imgB t)
 have hC : (leN 2 (crcL (imgB t))).length = 2 := leN_full hcb.1 (by omega)
 have hV : leVal (leN 2 (crcL (imgB t))) = crcL (imgB t) := leVal_leN hcb.1 (by omega)
 have hM : (imgB t).length = 28 + (encBody t).length := by
  unfold imgB
  simp only [List.length_append, hL, hcl, hsl, List.length_cons, List.length_nil]
 have hI : (imgL t).length = 30 + (encBody t).length := by unfold imgL; rw [List.length_append, hM, hC]; omega
 have t4 : (imgL t).take 4 = [84, 80, 84, 49] := by unfold imgL imgB; simp only [List.append_assoc]; exact List.take_left' rfl
 have t28 : ((imgL t).take 28).drop 4 = leN 4 (28 + (encBody t).length + 2) ++ ((cntsL t).flatMap (leN 2) ++ bytes1 [t.f0, t.f1, t.f9, t.f10, t.f11, t.f12]) := by
  have e : imgL t = ([84, 80, 84, 49] ++ (leN 4 (28 + (encBody t).length + 2) ++ ((cntsL t).flatMap (leN 2) ++ bytes1 [t.f0, t.f1, t.f9, t.f10, t.f11, t.f12]))) ++ (encBody t ++ leN 2 (crcL (imgB t))) := by
   unfold imgL
   conv => lhs; arg 1; unfold imgB
   simp only [List.append_assoc]
  rw [e, List.take_left' (by simp only [List.length_append, hL, hcl, hsl, List.length_cons, List.length_nil])]
  exact List.drop_left' rfl
 have dE : (imgL t).drop ((imgL t).length - 2) = leN 2 (crcL (imgB t)) := by rw [hI]; unfold imgL; exact List.drop_left' (by rw [hM]; omega)
 have tE : (imgL t).take ((imgL t).length - 2) = imgB t := by rw [hI]; unfold imgL; exact List.take_left' (by rw [hM]; omega)
 have d28 : (imgB t).drop 28 = encBody t := by unfold imgB; exact List.drop_left' (by simp only [List.length_append, hL, hcl, hsl, List.length_cons, List.length_nil])
 unfold imgP
 rw [t28, dE, tE, d28, t4, hG, hV, hI]
 rw [if_neg (by simp; omega), if_neg (by omega)]
 simp only []
 rw [if_neg (by simp; omega), if_neg (by simp), hcr]
 simp only [hs, hrow, ht]
 simp
end Go.Proofs.Ytbgcemijihpakaa.XA
end
section
namespace Go.Proofs.Ytbgcemijihpakaa.XA
set_option linter.unusedVariables false
set_option linter.unusedSimpArgs false
open Go.RowKit Go.WideMaps Go.Maps Go.Proofs.YtbgcemijihpakaaW.PrintWords Go.Proofs.YtbgcemijihpakaaW.PrintLast Go.Proofs.YtbgcemijihpakaaW.PrintMore
theorem range_leVal (l : List Int) (h : ∀ x ∈ l, 0 ≤ x ∧ x ≤ 255) : (List.range l.length).map (fun i => leVal l / 2 ^ (8 * i) % 256) = l := by
 induction l with
 | nil => rfl
 | cons x l ih =>
  have hx := h x (by simp)
  have ih := ih (fun y hy => h y (by simp [hy]))
  rw [List.length_cons, List.range_succ_eq_map, List.map_cons, List.map_map]
  congr 1
  ·simp only [leVal, Nat.mul_zero, Int.pow_zero, Int.ediv_one]
   omega
  ·conv => rhs; rw [← ih]
   refine List.map_congr_left fun i _ => ?_
   have e : (2 : Int) ^ (8 * (i + 1)) = 256 * 2 ^ (8 * i) := by rw [Nat.mul_add, Int.pow_add, Int.mul_comm]; rfl
   simp only [Function.comp, leVal, Nat.succ_eq_add_one, e]
   rw [← Int.ediv_ediv_of_nonneg (by omega), show (x + 256 * leVal l) / 256 = leVal l by omega]
theorem pGet_inv {n : Nat} {bs r : List Int} {x : Int} (h : pGet n bs = .ok (x, r)) (hb : ∀ y ∈ bs, 0 ≤ y ∧ y ≤ 255) : bs = leN n x ++ r := by
 unfold pGet at h
 split at h
 ·rename_i hl
  injection h with h
  injection h with h1 h2
  subst h1 h2
  have hbt : ∀ y ∈ bs.take n, 0 ≤ y ∧ y ≤ 255 := fun y hy => hb y (List.mem_of_mem_take hy)
  have hlen : (bs.take n).length = n := by rw [List.length_take]; omega
  have hlt := leVal_lt (bs.take n) hbt
  have hr := range_leVal (bs.take n) hbt
  rw [hlen] at hlt hr
  have e : (2 : Int) ^ (8 * n) = 256 ^ n := by rw [Int.pow_mul]; rfl
  unfold leN
  rw [if_pos (by rw [e]; exact Int.ediv_eq_zero_of_lt hlt.1 hlt.2), hr, List.take_append_drop]
 ·cases h
end Go.Proofs.Ytbgcemijihpakaa.XA
end
section
namespace Go.Proofs.Ytbgcemijihpakaa.XA
set_option linter.unusedVariables false
set_option linter.unusedSimpArgs false
open Go.RowKit Go.WideMaps Go.Maps Go.Proofs.YtbgcemijihpakaaW.PrintWords Go.Proofs.YtbgcemijihpakaaW.PrintLast Go.Proofs.YtbgcemijihpakaaW.PrintMore
def Bs (l : List Int) : Prop := ∀ y ∈ l, 0 ≤ y ∧ y ≤ 255
/-- a reading takes what the writing gives -/
def Inv {α : Type} (p : Rd α) (en : α → List Int) : Prop := ∀ bs x r, Bs bs → p bs = .ok (x, r) → bs = en x ++ r ∧ Bs r
theorem pBind_inv {α β : Type} {p : Rd α} {f : α → Rd β} {bs s : List Int} {y : β} (h : pBind p f bs = .ok (y, s)) : ∃ x r, p bs = .ok (x, r) ∧ f x r = .ok (y, s) := by
 unfold pBind at h
 rcases hp : p bs with c | ⟨x, r⟩
 ·rw [hp] at h; cases h
 ·rw [hp] at h; exact ⟨x, r, rfl, h⟩
theorem get_inv (n : Nat) : Inv (pGet n) (leN n) := fun bs x r hb h => by
 have e := pGet_inv h hb
 refine ⟨e, fun y hy => hb y ?_⟩
 rw [e]
 exact List.mem_append_right _ hy
theorem reps_inv {α : Type} {p : Rd α} {en : α → List Int} (hp : Inv p en) : ∀ (n : Nat) (bs : List Int) (xs : List α) (r : List Int), Bs bs → pReps p n bs = .ok (xs, r) → bs = xs.flatMap en ++ r ∧ xs.length = n ∧ Bs r := by
 intro n
 induction n with
 | zero =>
  intro bs xs r hb h
  simp only [pReps] at h
  injection h with h
  injection h with h1 h2
  subst h1 h2
  exact ⟨rfl, rfl, hb⟩
 | succ n ih =>
  intro bs xs r hb h
  simp only [pReps] at h
  rcases hq : p bs with c | ⟨x, r1⟩
  ·rw [hq] at h; cases h
  ·rw [hq] at h
   obtain ⟨e1, b1⟩ := hp _ _ _ hb hq
   rcases h2 : pReps p n r1 with c | ⟨l, s⟩
   ·simp only [h2] at h; cases h
   ·simp only [h2] at h
    injection h with h
    injection h with h3 h4
    subst h3 h4
    obtain ⟨e2, l2, b2⟩ := ih _ _ _ b1 h2
    exact ⟨by rw [e1, e2, List.flatMap_cons, List.append_assoc], by simp [l2], b2⟩
theorem ring_inv : Inv pRing encRing := fun bs x r hb h => by
 unfold pRing at h
 obtain ⟨a, r1, h1, h⟩ := pBind_inv h
 obtain ⟨b, r2, h2, h⟩ := pBind_inv h
 obtain ⟨e1, b1⟩ := get_inv 1 _ _ _ hb h1
 obtain ⟨e2, b2⟩ := get_inv 2 _ _ _ b1 h2
 injection h with h
 injection h with h3 h4
 subst h3 h4
 refine ⟨?_, b2⟩
 rw [e1, e2]
 simp [encRing, bytes1]
theorem ctr_inv : Inv pCtr encCtr := fun bs x r hb h => by
 unfold pCtr at h
 obtain ⟨a, r1, h1, h⟩ := pBind_inv h
 obtain ⟨b, r2, h2, h⟩ := pBind_inv h
 obtain ⟨c, r3, h3, h⟩ := pBind_inv h
 obtain ⟨e1, b1⟩ := get_inv 4 _ _ _ hb h1
 obtain ⟨e2, b2⟩ := get_inv 4 _ _ _ b1 h2
 obtain ⟨e3, b3⟩ := get_inv 4 _ _ _ b2 h3
 injection h with h
 injection h with h4 h5
 subst h4 h5
 refine ⟨?_, b3⟩
 rw [e1, e2, e3]
 simp [encCtr]
theorem act_inv : Inv pAct actL := fun bs x r hb h => by
 unfold pAct at h
 obtain ⟨a, r1, h1, h⟩ := pBind_inv h
 obtain ⟨b, r2, h2, h⟩ := pBind_inv h
 obtain ⟨c, r3, h3, h⟩ := pBind_inv h
 obtain ⟨e1, b1⟩ := get_inv 1 _ _ _ hb h1
 obtain ⟨e2, b2⟩ := get_inv 1 _ _ _ b1 h2
 obtain ⟨e3, b3⟩ := get_inv 4 _ _ _ b2 h3
 injection h with h
 injection h with h4 h5
 subst h4 h5
 refine ⟨?_, b3⟩
 rw [e1, e2, e3]
 simp [actL, bytes1]
end Go.Proofs.Ytbgcemijihpakaa.XA
end
section
namespace Go.Proofs.Ytbgcemijihpakaa.XA
set_option linter.unusedVariables false
set_option linter.unusedSimpArgs false
open Go.RowKit Go.WideMaps Go.Maps Go.Proofs.YtbgcemijihpakaaW.PrintWords Go.Proofs.YtbgcemijihpakaaW.PrintLast Go.Proofs.YtbgcemijihpakaaW.PrintMore
theorem alm_inv : Inv pAlm encAlm := fun bs x r hb h => by
 unfold pAlm at h
 obtain ⟨a, r1, h1, h⟩ := pBind_inv h
 obtain ⟨b, r2, h2, h⟩ := pBind_inv h
 obtain ⟨c, r3, h3, h⟩ := pBind_inv h
 obtain ⟨d, r4, h4, h⟩ := pBind_inv h
 obtain ⟨e, r5, h5, h⟩ := pBind_inv h
 obtain ⟨e1, b1⟩ := get_inv 1 _ _ _ hb h1
 obtain ⟨e2, b2⟩ := act_inv _ _ _ b1 h2
 obtain ⟨e3, b3⟩ := get_inv 1 _ _ _ b2 h3
 obtain ⟨e4, b4⟩ := get_inv 4 _ _ _ b3 h4
 obtain ⟨e5, b5⟩ := get_inv 4 _ _ _ b4 h5
 injection h with h
 injection h with h6 h7
 subst h6 h7
 refine ⟨?_, b5⟩
 rw [e1, e2, e3, e4, e5]
 simp [encAlm, bytes1]
theorem msg_inv : Inv pMsg encMsg := fun bs x r hb h => by
 unfold pMsg at h
 obtain ⟨a, r1, h1, h⟩ := pBind_inv h
 obtain ⟨b, r2, h2, h⟩ := pBind_inv h
 obtain ⟨c, r3, h3, h⟩ := pBind_inv h
 obtain ⟨d, r4, h4, h⟩ := pBind_inv h
 obtain ⟨e, r5, h5, h⟩ := pBind_inv h
 obtain ⟨f, r6, h6, h⟩ := pBind_inv h
 obtain ⟨e1, b1⟩ := get_inv 1 _ _ _ hb h1
 obtain ⟨e2, b2⟩ := get_inv 1 _ _ _ b1 h2
 obtain ⟨e3, b3⟩ := get_inv 1 _ _ _ b2 h3
 obtain ⟨e4, b4⟩ := get_inv 8 _ _ _ b3 h4
 obtain ⟨e5, b5⟩ := get_inv 1 _ _ _ b4 h5
 obtain ⟨e6, b6⟩ := act_inv _ _ _ b5 h6
 injection h with h
 injection h with h7 h8
 subst h7 h8
 refine ⟨?_, b6⟩
 rw [e1, e2, e3, e4, e5, e6]
 simp [encMsg, bytes1]
theorem list_inv : Inv pList listL := fun bs x r hb h => by
 unfold pList at h
 rcases hq : pGet 1 bs with c | ⟨n, r1⟩
 ·simp only [hq] at h; cases h
 ·simp only [hq] at h
  obtain ⟨e1, b1⟩ := get_inv 1 _ _ _ hb hq
  have hn := (pGet_bd hq hb).1
  obtain ⟨e2, l2, b2⟩ := reps_inv (get_inv 1) _ _ _ _ b1 h
  refine ⟨?_, b2⟩
  have : ((x.length : Nat) : Int) = n := by omega
  rw [e1, e2]
  simp [listL, bytes1, this]
theorem isr_inv : Inv pIsr encIsr := fun bs x r hb h => by
 unfold pIsr at h
 obtain ⟨a, r1, h1, h⟩ := pBind_inv h
 obtain ⟨b, r2, h2, h⟩ := pBind_inv h
 obtain ⟨c, r3, h3, h⟩ := pBind_inv h
 obtain ⟨e1, b1⟩ := get_inv 1 _ _ _ hb h1
 obtain ⟨e2, b2⟩ := get_inv 1 _ _ _ b1 h2
 obtain ⟨e3, b3⟩ := list_inv _ _ _ b2 h3
 injection h with h
 injection h with h4 h5
 subst h4 h5
 refine ⟨?_, b3⟩
 rw [e1, e2, e3]
 simp [encIsr, bytes1]
end Go.Proofs.Ytbgcemijihpakaa.XA
end
section
namespace Go.Proofs.Ytbgcemijihpakaa.XA
set_option linter.unusedVariables false
set_option linter.unusedSimpArgs false
open Go.RowKit Go.WideMaps Go.Maps Go.Proofs.YtbgcemijihpakaaW.PrintWords Go.Proofs.YtbgcemijihpakaaW.PrintLast Go.Proofs.YtbgcemijihpakaaW.PrintMore
theorem flag_one {a : Int} (h0 : 0 ≤ a) (h1 : ¬ 1 < a) : (if (a == 1) = true then (1 : Int) else 0) = a := by
 rcases (by omega : a = 0 ∨ a = 1) with rfl | rfl <;> rfl
theorem res_inv : Inv pRes encRes := fun bs x r hb h => by
 unfold pRes at h
 obtain ⟨a, r1, h1, h⟩ := pBind_inv h
 obtain ⟨b, r2, h2, h⟩ := pBind_inv h
 obtain ⟨e1, b1⟩ := get_inv 1 _ _ _ hb h1
 obtain ⟨e2, b2⟩ := get_inv 1 _ _ _ b1 h2
 have ha := (pGet_bd h1 hb).1
 split at h
 ·cases h
 ·rename_i hf
  have hfl := flag_one ha hf
  injection h with h
  injection h with h3 h4
  subst h3 h4
  refine ⟨?_, b2⟩
  rw [e1, e2]
  have : b - 1 + 1 = b := by omega
  simp only [encRes, flagL, bytes1, hfl, this]
  simp
theorem task_inv : Inv pTask encTask := fun bs x r hb h => by
 unfold pTask at h
 obtain ⟨a, r1, h1, h⟩ := pBind_inv h
 obtain ⟨b, r2, h2, h⟩ := pBind_inv h
 obtain ⟨fu, r3, h3, h⟩ := pBind_inv h
 obtain ⟨l, r4, h4, h⟩ := pBind_inv h
 obtain ⟨m, r5, h5, h⟩ := pBind_inv h
 obtain ⟨i, r6, h6, h⟩ := pBind_inv h
 obtain ⟨ow, r7, h7, h⟩ := pBind_inv h
 obtain ⟨au, r8, h8, h⟩ := pBind_inv h
 obtain ⟨e1, b1⟩ := get_inv 1 _ _ _ hb h1
 obtain ⟨e2, b2⟩ := get_inv 1 _ _ _ b1 h2
 obtain ⟨e3, b3⟩ := get_inv 1 _ _ _ b2 h3
 obtain ⟨e4, b4⟩ := get_inv 1 _ _ _ b3 h4
 obtain ⟨e5, b5⟩ := get_inv 4 _ _ _ b4 h5
 obtain ⟨e6, b6⟩ := get_inv 1 _ _ _ b5 h6
 obtain ⟨e7, b7⟩ := list_inv _ _ _ b6 h7
 obtain ⟨e8, b8⟩ := get_inv 1 _ _ _ b7 h8
 have ha := (pGet_bd h3 b2).1
 split at h
 ·cases h
 ·rename_i hf
  have hfl := flag_one ha hf
  injection h with h
  injection h with h9 h10
  subst h9 h10
  refine ⟨?_, b8⟩
  rw [e1, e2, e3, e4, e5, e6, e7, e8]
  have : i - 1 + 1 = i := by omega
  simp only [encTask, flagL, bytes1, hfl, this]
  simp
end Go.Proofs.Ytbgcemijihpakaa.XA
end
section
namespace Go.Proofs.Ytbgcemijihpakaa.XA
set_option linter.unusedVariables false
set_option linter.unusedSimpArgs false
open Go.RowKit Go.WideMaps Go.Maps Go.Proofs.YtbgcemijihpakaaW.PrintWords Go.Proofs.YtbgcemijihpakaaW.PrintLast Go.Proofs.YtbgcemijihpakaaW.PrintMore
theorem rows_inv {h : HeadP} {bs r : List Int} {t : S33} (hn : ∃ n0 n1 n2 n3 n4 n5 n6 : Int, h.ns = [n0, n1, n2, n3, n4, n5, n6]) (hp : ∀ x ∈ h.ns, 0 ≤ x) (hb : Bs bs) (hq : pRows h bs = .ok (t, r)) : bs = encBody t ++ r ∧ h.ns = cntsL t ∧ h.uses = t.f0 ∧ h.modes = t.f1 ∧ h.depth = t.f9 ∧ h.frames = t.f10 ∧ h.errors = t.f11 ∧ h.calls = t.f12 := by
 unfold pRows at hq
 obtain ⟨t2, r2, h2, hq⟩ := pBind_inv hq
 obtain ⟨t3, r3, h3, hq⟩ := pBind_inv hq
 obtain ⟨t4, r4, h4, hq⟩ := pBind_inv hq
 obtain ⟨t5, r5, h5, hq⟩ := pBind_inv hq
 obtain ⟨t6, r6, h6, hq⟩ := pBind_inv hq
 obtain ⟨t7, r7, h7, hq⟩ := pBind_inv hq
 obtain ⟨t8, r8, h8, hq⟩ := pBind_inv hq
 obtain ⟨e2, l2, b2⟩ := reps_inv task_inv _ _ _ _ hb h2
 obtain ⟨e3, l3, b3⟩ := reps_inv ring_inv _ _ _ _ b2 h3
 obtain ⟨e4, l4, b4⟩ := reps_inv res_inv _ _ _ _ b3 h4
 obtain ⟨e5, l5, b5⟩ := reps_inv ctr_inv _ _ _ _ b4 h5
 obtain ⟨e6, l6, b6⟩ := reps_inv alm_inv _ _ _ _ b5 h6
 obtain ⟨e7, l7, b7⟩ := reps_inv isr_inv _ _ _ _ b6 h7
 obtain ⟨e8, l8, b8⟩ := reps_inv msg_inv _ _ _ _ b7 h8
 injection hq with hq
 injection hq with h9 h10
 subst h9 h10
 obtain ⟨n0, n1, n2, n3, n4, n5, n6, hns⟩ := hn
 rw [hns] at hp l2 l3 l4 l5 l6 l7 l8 ⊢
 simp only [cntP, List.getD_cons_zero, List.getD_cons_succ] at l2 l3 l4 l5 l6 l7 l8
 simp only [List.mem_cons, List.not_mem_nil, or_false, forall_eq_or_imp, forall_eq] at hp
 refine ⟨?_, ?_, rfl, rfl, rfl, rfl, rfl, rfl⟩
 ·rw [e2, e3, e4, e5, e6, e7, e8]
  simp [encBody, parts]
 ·simp only [cntsL, l2, l3, l4, l5, l6, l7, l8]
  obtain ⟨p0, p1, p2, p3, p4, p5, p6⟩ := hp
  simp only [List.cons.injEq, and_true]
  omega
end Go.Proofs.Ytbgcemijihpakaa.XA
end
section
namespace Go.Proofs.Ytbgcemijihpakaa.XA
set_option linter.unusedVariables false
set_option linter.unusedSimpArgs false
open Go.RowKit Go.WideMaps Go.Maps Go.Proofs.YtbgcemijihpakaaW.PrintWords Go.Proofs.YtbgcemijihpakaaW.PrintLast Go.Proofs.YtbgcemijihpakaaW.PrintMore
theorem six_inv {s : Int} {ns bs r : List Int} {h : HeadP} (hb : Bs bs) (hq : pSix s ns bs = .ok (h, r)) : bs = bytes1 [h.uses, h.modes, h.depth, h.frames, h.errors, h.calls] ++ r ∧ h.size = s ∧ h.ns = ns ∧ Bs r := by
 unfold pSix at hq
 obtain ⟨a, r1, h1, hq⟩ := pBind_inv hq
 obtain ⟨b, r2, h2, hq⟩ := pBind_inv hq
 obtain ⟨c, r3, h3, hq⟩ := pBind_inv hq
 obtain ⟨d, r4, h4, hq⟩ := pBind_inv hq
 obtain ⟨e, r5, h5, hq⟩ := pBind_inv hq
 obtain ⟨f, r6, h6, hq⟩ := pBind_inv hq
 obtain ⟨e1, b1⟩ := get_inv 1 _ _ _ hb h1
 obtain ⟨e2, b2⟩ := get_inv 1 _ _ _ b1 h2
 obtain ⟨e3, b3⟩ := get_inv 1 _ _ _ b2 h3
 obtain ⟨e4, b4⟩ := get_inv 1 _ _ _ b3 h4
 obtain ⟨e5, b5⟩ := get_inv 1 _ _ _ b4 h5
 obtain ⟨e6, b6⟩ := get_inv 1 _ _ _ b5 h6
 injection hq with hq
 injection hq with h7 h8
 subst h7 h8
 refine ⟨?_, rfl, rfl, b6⟩
 rw [e1, e2, e3, e4, e5, e6]
 simp [bytes1]
end Go.Proofs.Ytbgcemijihpakaa.XA
end
