/- plain: tables that may be have small numbers. -/
import Derived.Test.YtbgcemijihpakaaG33
import Derived.Test.YtbgcemijihpakaaG34
section
namespace Go.Proofs.Ytbgcemijihpakaa.XA
set_option linter.unusedVariables false
set_option linter.unusedSimpArgs false
open Go.RowKit Go.WideMaps Go.Maps Go.Proofs.YtbgcemijihpakaaW.PrintWords Go.Proofs.YtbgcemijihpakaaW.PrintLast Go.Proofs.YtbgcemijihpakaaW.PrintMore
theorem eqL_eq {α : Type} {f : α → α → Bool} (hf : ∀ x y, f x y = true → x = y) : ∀ xs ys : List α, eqL f xs ys = true → xs = ys
 | [], [], _ => rfl
 | [], _ :: _, h => by cases h
 | _ :: _, [], h => by cases h
 | x :: xs, y :: ys, h => by
  simp only [eqL, Bool.and_eq_true] at h
  rw [hf x y h.1, eqL_eq hf xs ys h.2]
theorem eq88_eq (x y : S88) (h : eq88 x y = true) : x = y := by
 unfold eq88 at h
 simp only [Bool.and_eq_true, beq_iff_eq] at h
 cases x; cases y; simp_all
theorem own_bd {rs : List S66} {l : List Int} {p : Int} (h : ownB rs l p = true) : (∀ y ∈ l, 0 ≤ y ∧ y < rs.length) ∧ l.length ≤ rs.length := by
 have hA : ∀ i, i < l.length → ownAt rs p l i = true := by
  unfold ownB at h
  rw [List.all_eq_true] at h
  exact fun i hi => h i (List.mem_range.mpr hi)
 have hB : ∀ i, i < l.length → 0 ≤ l.getD i 0 ∧ l.getD i 0 < rs.length ∧ (i = 0 ∨ l.getD (i - 1) 0 < l.getD i 0) := by
  intro i hi
  have := hA i hi
  unfold ownAt at this
  simp only [Bool.and_eq_true, Bool.or_eq_true, decide_eq_true_eq] at this
  exact ⟨this.1.1.1.1, this.1.1.1.2, this.1.1.2⟩
 have hC : ∀ i, i < l.length → (i : Int) ≤ l.getD i 0 := by
  intro i
  induction i with
  | zero => intro hi; have := (hB 0 hi).1; omega
  | succ i ih =>
   intro hi
   have h1 := ih (by omega)
   have h2 := (hB (i + 1) hi).2.2
   rw [Nat.add_sub_cancel] at h2
   omega
 refine ⟨fun y hy => ?_, ?_⟩
 ·obtain ⟨i, hi, rfl⟩ := mem_getD (d := 0) hy
  exact ⟨(hB i hi).1, (hB i hi).2.1⟩
 ·rcases Nat.eq_zero_or_pos l.length with h0 | h0
  ·omega
  ·have := hC (l.length - 1) (by omega)
   have := (hB (l.length - 1) (by omega)).2.1
   omega
theorem auto_by {x m : Int} (h0 : 0 ≤ x) (hm : 1 ≤ m ∧ m ≤ 8) (hx : x / 2 ^ min m.toNat 32 = 0) : By x := by
 obtain ⟨k, hk⟩ : ∃ k, k = m.toNat := ⟨_, rfl⟩
 rw [← hk, Nat.min_eq_left (by omega)] at hx
 have hc : k = 1 ∨ k = 2 ∨ k = 3 ∨ k = 4 ∨ k = 5 ∨ k = 6 ∨ k = 7 ∨ k = 8 := by omega
 unfold By
 rcases hc with rfl | rfl | rfl | rfl | rfl | rfl | rfl | rfl <;> simp only [Int.reducePow] at hx <;> omega
theorem act_bd {ts : List S69} {a : S100} {lo hi : Int} (h : actB ts a lo hi = true) : lo ≤ a.f0 ∧ a.f0 ≤ hi ∧ 0 ≤ a.f1 ∧ (a.f1 = 0 ∨ a.f1 < ts.length) := by
 unfold actB at h
 split at h
 ·cases h
 split at h
 ·cases h
 split at h
 ·simp only [Bool.and_eq_true, beq_iff_eq] at h
  omega
 split at h
 ·cases h
 split at h
 ·cases h
 omega
theorem ringsUp_bd {ts : List S69} (h : ∀ x ∈ ts, 0 ≤ x.f3 ∧ x.f3 ≤ 255) (hn : ts.length ≤ 256) (m : Nat) (hm : m ≤ 64) : ∀ x ∈ ringsUp ts m, 0 ≤ x.f0 ∧ x.f0 ≤ 63 ∧ 0 ≤ x.f1 ∧ x.f1 < 65536 := by
 induction m with
 | zero => intro x hx; simp [ringsUp] at hx
 | succ m ih =>
  intro x hx
  unfold ringsUp at hx
  rcases List.mem_append.mp hx with hx | hx
  ·exact ih (by omega) x hx
  ·split at hx
   ·rw [List.mem_singleton] at hx
    subst hx
    have := sumP_bd ts (63 - m) h
    simp only []
    omega
   ·cases hx
theorem cnt_all (n : Nat) (ks : List Int) : ∀ x ∈ cnt n ks, 0 ≤ x ∧ x ≤ ks.length := by
 intro x hx
 have := fold_bd ks (List.replicate n 0) 0 (by omega) (fun y hy => by have := (List.mem_replicate.mp hy).2; omega) x hx
 omega
theorem most_bd (t : S33) (h6 : t.f6.length ≤ 64) (h8 : t.f8.length ≤ 64) : 2 ≤ mostOf t ∧ mostOf t ≤ 64 := by
 unfold mostOf
 refine ⟨Int.le_trans (top_ge 2 _) (top_ge _ _), (top_le _ _ _).mpr ⟨(top_le _ _ _).mpr ⟨by omega, fun x hx => ?_⟩, fun x hx => ?_⟩⟩
 ·have := (cnt_all _ _ x hx).2; rw [kA_len] at this; omega
 ·have := (cnt_all _ _ x hx).2; have := kM_len t.f8; omega
theorem back_bd (t : S33) (h6 : t.f6.length ≤ 64) (h8 : t.f8.length ≤ 64) : 0 ≤ backOf t ∧ backOf t ≤ 128 := by
 have := bA_bd t.f6; have := bM_bd t.f8; unfold backOf; omega
/-- the numbers of four and eight bytes are such -/
structure TyTab (t : S33) : Prop where
 tk : ∀ x ∈ t.f2, W4 x.f4 ∧ 0 ≤ x.f7
 al : ∀ x ∈ t.f6, W4 x.f1.f2 ∧ 0 ≤ x.f2 ∧ W4 x.f3 ∧ W4 x.f4
 ms : ∀ x ∈ t.f8, 0 ≤ x.f3 ∧ W4 x.f5.f2
/-- what tables that may be have -/
structure Small (t : S33) : Prop where
 img : OkImg t
 ini : ∀ x ∈ t.f8, x.f3 ≤ 4294967295
 f0 : By t.f0
 f1 : By t.f1
 f9 : By t.f9
 f10 : By t.f10
 f11 : By t.f11
 f12 : By t.f12
 n2 : t.f2.length ≤ 256
 n3 : t.f3.length ≤ 64
 n4 : t.f4.length ≤ 65
 n5 : t.f5.length ≤ 16
 n6 : t.f6.length ≤ 64
 n7 : t.f7.length ≤ 32
 n8 : t.f8.length ≤ 64
theorem small_of {t : S33} (h : tabOk t = true) (ty : TyTab t) : Small t := by
 unfold tabOk at h
 simp only [Bool.and_eq_true] at h
 obtain ⟨hf, htop, hpr, htk, hck, hir, hmg, hrm⟩ := h
 have hf := few_of hf
 unfold topsB at htop
 unfold priosB at hpr
 rw [List.all_eq_true] at htop hpr
 have ctop : ∀ x ∈ t.f4, -1 ≤ x.f1 ∧ x.f1 ≤ 127 := by
  intro x hx
  obtain ⟨i, hi, rfl⟩ := mem_getD (d := z66) hx
  have := htop i (List.mem_range.mpr hi)
  unfold topB at this
  simp only [Bool.and_eq_true, decide_eq_true_eq] at this
  exact this
 have cpr : ∀ x ∈ t.f2, 0 ≤ x.f0 ∧ x.f0 ≤ 63 := by
  intro x hx
  obtain ⟨i, hi, rfl⟩ := mem_getD (d := z69) hx
  have := hpr i (List.mem_range.mpr hi)
  unfold prioB at this
  simp only [Bool.and_eq_true, decide_eq_true_eq] at this
  exact this
 unfold tasksB at htk
 simp only [Bool.and_eq_true] at htk
 have hlim := task_lim htk.1
 have hrg := eqL_eq eq88_eq _ _ htk.2
 have hr64 : t.f3.length ≤ 64 := by rw [← hrg]; exact ringsUp_len _ _
 have crg : ∀ x ∈ t.f3, 0 ≤ x.f0 ∧ x.f0 ≤ 63 ∧ 0 ≤ x.f1 ∧ x.f1 < 65536 := by rw [← hrg]; exact ringsUp_bd hlim (by omega) 64 (by omega)
 have htk1 := htk.1
 rw [List.all_eq_true] at htk1
 have ctk : ∀ x ∈ t.f2, 0 ≤ x.f1 ∧ x.f1 < t.f3.length ∧ 1 ≤ x.f3 ∧ x.f3 ≤ 255 ∧ -1 ≤ x.f5 ∧ x.f5 ≤ 127 ∧ ownB t.f4 x.f6 x.f0 = true ∧ x.f7 / 2 ^ min t.f1.toNat 32 = 0 := by
  intro x hx
  have h0 := cpr x hx
  obtain ⟨i, hi, rfl⟩ := mem_getD (d := z69) hx
  have := htk1 i (List.mem_range.mpr hi)
  unfold taskAt taskA taskB at this
  simp only [Bool.and_eq_true, Bool.or_eq_true, decide_eq_true_eq, beq_iff_eq] at this
  obtain ⟨⟨⟨⟨⟨⟨a1, a2⟩, a3⟩, a4⟩, a5⟩, a6⟩, ⟨b1, b2⟩, b3⟩ := this
  refine ⟨a1, a2, a4, a5, ?_, ?_, b2, b3⟩ <;> omega
 unfold clocksB at hck
 simp only [Bool.and_eq_true, List.all_eq_true] at hck
 have cct : ∀ x ∈ t.f5, W4 x.f0 ∧ W4 x.f1 ∧ W4 x.f2 := by
  intro x hx
  obtain ⟨i, hi, rfl⟩ := mem_getD (d := z95) hx
  have := hck.1 i (List.mem_range.mpr hi)
  unfold ctrRow tickB at this
  simp only [Bool.and_eq_true, decide_eq_true_eq] at this
  unfold W4
  omega
 have cal : ∀ x ∈ t.f6, 0 ≤ x.f0 ∧ x.f0 < t.f5.length ∧ actB t.f2 x.f1 1 3 = true ∧ x.f2 / 2 ^ min t.f1.toNat 32 = 0 := by
  intro x hx
  obtain ⟨i, hi, rfl⟩ := mem_getD (d := z102) hx
  have := hck.2 i (List.mem_range.mpr hi)
  unfold almRow almA at this
  simp only [Bool.and_eq_true, decide_eq_true_eq, beq_iff_eq] at this
  obtain ⟨⟨⟨⟨a1, a2⟩, a3⟩, a4⟩, _⟩ := this
  exact ⟨a1, a2, a3, a4⟩
 unfold isrsB at hir
 rw [List.all_eq_true] at hir
 have cir : ∀ x ∈ t.f7, (x.f0 = 1 ∨ x.f0 = 2) ∧ 64 ≤ x.f1 ∧ x.f1 ≤ 127 ∧ ownB t.f4 x.f2 x.f1 = true := by
  intro x hx
  obtain ⟨i, hi, rfl⟩ := mem_getD (d := z107) hx
  have := hir i (List.mem_range.mpr hi)
  unfold isrAt isrRow at this
  simp only [Bool.and_eq_true, Bool.or_eq_true, decide_eq_true_eq, beq_iff_eq] at this
  obtain ⟨⟨⟨⟨⟨a1, a2⟩, a3⟩, a4⟩, _⟩, _⟩ := this
  exact ⟨a1, a2, a3, a4⟩
 unfold msgsB at hmg
 rw [List.all_eq_true] at hmg
 have cmg : ∀ x ∈ t.f8, By x.f0 ∧ By x.f1 ∧ By x.f2 ∧ x.f3 ≤ 4294967295 ∧ By x.f4 ∧ By x.f5.f0 ∧ By x.f5.f1 := by
  intro x hx
  obtain ⟨i, hi, rfl⟩ := mem_getD (d := z113) hx
  have := hmg i (List.mem_range.mpr hi)
  generalize t.f8.getD i z113 = x at *
  unfold msgRow at this
  unfold By
  split at this
  ·rename_i h1
   unfold sendB eq100 at this
   simp only [Bool.and_eq_true, decide_eq_true_eq, beq_iff_eq, List.mem_cons, List.not_mem_nil, or_false] at this
   obtain ⟨⟨⟨⟨a1, a2⟩, a3⟩, a4⟩, a5, a6, a7⟩ := this
   rw [a5, a6]
   have e0 : z100.f0 = 0 := rfl
   have e1 : z100.f1 = 0 := rfl
   rw [e0, e1]
   omega
  ·unfold recvA initB queueB at this
   simp only [Bool.and_eq_true, Bool.or_eq_true, decide_eq_true_eq, beq_iff_eq] at this
   obtain ⟨⟨⟨⟨⟨⟨⟨a1, a2⟩, a3⟩, a4⟩, _⟩, a6⟩, a7, _⟩, a8⟩ := this
   have a6 := act_bd a6
   have a9 : 0 ≤ x.f4 ∧ x.f4 ≤ 16 := by
    split at a8
    ·simp only [beq_iff_eq] at a8; omega
    ·simp only [Bool.and_eq_true, decide_eq_true_eq] at a8; omega
   omega
 unfold roomB at hrm
 simp only [Bool.and_eq_true, beq_iff_eq] at hrm
 obtain ⟨⟨⟨r9, r10⟩, r11⟩, r12⟩ := hrm
 have hmo := most_bd t (by omega) (by omega)
 have hba := back_bd t (by omega) (by omega)
 refine ⟨⟨?_, ?_, ?_, cct, ?_, ?_, ?_⟩, fun x hx => (cmg x hx).2.2.2.1, ?_, ?_, ?_, ?_, ?_, ?_, by omega, hr64, by omega, by omega, by omega, by omega, by omega⟩
 ·intro x hx
  have h0 := cpr x hx
  have h1 := ctk x hx
  have h2 := ty.tk x hx
  have h3 := own_bd h1.2.2.2.2.2.2.1
  have h4 := auto_by h2.2 (by omega) h1.2.2.2.2.2.2.2
  refine ⟨?_, ?_, ?_, h2.1, ?_, by omega, fun y hy => ?_, h4⟩
  ·unfold By; omega
  ·unfold By; omega
  ·unfold By; omega
  ·unfold By; omega
  ·have := h3.1 y hy; unfold By; omega
 ·intro x hx
  have := crg x hx
  unfold By
  omega
 ·intro x hx
  have := ctop x hx
  unfold By
  omega
 ·intro x hx
  have h1 := cal x hx
  have h2 := ty.al x hx
  have h3 := act_bd h1.2.2.1
  refine ⟨?_, ⟨?_, ?_, h2.1⟩, auto_by h2.2.1 (by omega) h1.2.2.2, h2.2.2.1, h2.2.2.2⟩
  ·unfold By; omega
  ·unfold By; omega
  ·unfold By; omega
 ·intro x hx
  have h1 := cir x hx
  have h3 := own_bd h1.2.2.2
  refine ⟨?_, ?_, by omega, fun y hy => ?_⟩
  ·unfold By; omega
  ·unfold By; omega
  ·have := h3.1 y hy; unfold By; omega
 ·intro x hx
  obtain ⟨a, b, c, d, e, f, g⟩ := cmg x hx
  have h2 := ty.ms x hx
  exact ⟨a, b, c, ⟨h2.1, by omega⟩, e, f, g, h2.2⟩
 ·unfold By; omega
 ·unfold By; omega
 ·unfold By; omega
 ·unfold By; omega
 ·unfold By; omega
 ·unfold By; omega
theorem Small.tab {t : S33} (h : Small t) : OkTab t := by
 have sb : ∀ {x : Int}, By x → Sm x := fun {x} h => by unfold By at h; unfold Sm; omega
 have s4 : ∀ {x : Int}, W4 x → Sm x := fun {x} h => by unfold W4 at h; unfold Sm; omega
 refine ⟨fun x hx => ?_, fun x hx => ?_, fun x hx => ?_, fun x hx => ?_, fun x hx => ?_, fun x hx => ?_, fun x hx => ?_, ?_, sb h.f0, sb h.f1, sb h.f9, sb h.f10, sb h.f11, sb h.f12⟩
 ·obtain ⟨a, b, c, d, e, f, g, i⟩ := h.img.tk x hx
  exact ⟨sb a, sb b, sb c, s4 d, sb e, ⟨by omega, fun y hy => sb (g y hy)⟩, sb i⟩
 ·obtain ⟨a, b, c⟩ := h.img.rg x hx
  exact ⟨sb a, by unfold Sm; omega⟩
 ·exact ⟨sb (h.img.rs x hx)⟩
 ·obtain ⟨a, b, c⟩ := h.img.ct x hx
  exact ⟨s4 a, s4 b, s4 c⟩
 ·obtain ⟨a, ⟨b1, b2, b3⟩, c, d, e⟩ := h.img.al x hx
  exact ⟨sb a, ⟨sb b1, sb b2, s4 b3⟩, sb c, s4 d, s4 e⟩
 ·obtain ⟨a, b, c, d⟩ := h.img.is x hx
  exact ⟨sb a, sb b, by omega, fun y hy => sb (d y hy)⟩
 ·obtain ⟨a, b, c, d, e, f1, f2, f3⟩ := h.img.ms x hx
  have := h.ini x hx
  exact ⟨sb a, sb b, sb c, by unfold Sm; omega, sb e, ⟨sb f1, sb f2, s4 f3⟩⟩
 ·have := h.n2; have := h.n3; have := h.n4; have := h.n5; have := h.n6; have := h.n7; have := h.n8
  omega
/-- tables that may be are read again from their image -/
theorem back_of {t : S33} (h : tabOk t = true) (ty : TyTab t) : imgP (imgL t) = .ok t := by
 have hs := small_of h ty
 refine img_back hs.img hs.f0 hs.f1 hs.f9 hs.f10 hs.f11 hs.f12 (fun x hx => ?_) (encBody_len hs.tab) (by unfold tabE; rw [h]; rfl)
 have := hs.n2; have := hs.n3; have := hs.n4; have := hs.n5; have := hs.n6; have := hs.n7; have := hs.n8
 unfold cntsL at hx
 simp only [List.mem_cons, List.not_mem_nil, or_false] at hx
 omega
end Go.Proofs.Ytbgcemijihpakaa.XA
end
section
namespace Go.Proofs.Ytbgcemijihpakaa.XA
set_option linter.unusedVariables false
set_option linter.unusedSimpArgs false
open Go.RowKit Go.WideMaps Go.Maps Go.Proofs.YtbgcemijihpakaaW.PrintWords Go.Proofs.YtbgcemijihpakaaW.PrintLast Go.Proofs.YtbgcemijihpakaaW.PrintMore
theorem reps_all {α : Type} {p : Rd α} {Q : α → Prop} (hp : ∀ bs x r, Bs bs → p bs = .ok (x, r) → Q x ∧ Bs r) : ∀ (n : Nat) (bs : List Int) (xs : List α) (r : List Int), Bs bs → pReps p n bs = .ok (xs, r) → (∀ x ∈ xs, Q x) ∧ Bs r := by
 intro n
 induction n with
 | zero =>
  intro bs xs r hb h
  simp only [pReps] at h
  injection h with h
  injection h with h1 h2
  subst h1 h2
  exact ⟨fun x hx => by simp at hx, hb⟩
 | succ n ih =>
  intro bs xs r hb h
  simp only [pReps] at h
  rcases hq : p bs with c | ⟨x, r1⟩
  ·rw [hq] at h; cases h
  ·rw [hq] at h
   obtain ⟨e1, b1⟩ := hp _ _ _ hb hq
   rcases h2 : pReps p n r1 with c | ⟨l, s⟩
   ·simp only [h2] at h; cases h
   ·simp only [h2] at h
    injection h with h
    injection h with h3 h4
    subst h3 h4
    obtain ⟨e2, b2⟩ := ih _ _ _ b1 h2
    refine ⟨fun y hy => ?_, b2⟩
    rcases List.mem_cons.mp hy with rfl | hy
    ·exact e1
    ·exact e2 y hy
theorem w4_of {x : Int} (h : 0 ≤ x) (h1 : x < 256 ^ 4) : W4 x := ⟨h, by omega⟩
theorem task_ty : ∀ bs x r, Bs bs → pTask bs = .ok (x, r) → (W4 x.f4 ∧ 0 ≤ x.f7) ∧ Bs r := fun bs x r hb h => by
 have hB := (task_inv bs x r hb h).2
 refine ⟨?_, hB⟩
 unfold pTask at h
 obtain ⟨a, r1, h1, h⟩ := pBind_inv h
 obtain ⟨b, r2, h2, h⟩ := pBind_inv h
 obtain ⟨c, r3, h3, h⟩ := pBind_inv h
 obtain ⟨d, r4, h4, h⟩ := pBind_inv h
 obtain ⟨e, r5, h5, h⟩ := pBind_inv h
 obtain ⟨f, r6, h6, h⟩ := pBind_inv h
 obtain ⟨g, r7, h7, h⟩ := pBind_inv h
 obtain ⟨i, r8, h8, h⟩ := pBind_inv h
 have b1 := (pGet_bd h1 hb).2.2.1
 have b2 := (pGet_bd h2 b1).2.2.1
 have b3 := (pGet_bd h3 b2).2.2.1
 have b4 := (pGet_bd h4 b3).2.2.1
 have q5 := pGet_bd h5 b4
 have b6 := (pGet_bd h6 q5.2.2.1).2.2.1
 have b7 := (list_inv _ _ _ b6 h7).2
 have q8 := pGet_bd h8 b7
 split at h
 ·cases h
 ·injection h with h
  injection h with h _
  subst h
  exact ⟨w4_of q5.1 q5.2.1, q8.1⟩
theorem act_ty : ∀ bs x r, Bs bs → pAct bs = .ok (x, r) → W4 x.f2 ∧ Bs r := fun bs x r hb h => by
 have hB := (act_inv bs x r hb h).2
 refine ⟨?_, hB⟩
 unfold pAct at h
 obtain ⟨a, r1, h1, h⟩ := pBind_inv h
 obtain ⟨b, r2, h2, h⟩ := pBind_inv h
 obtain ⟨c, r3, h3, h⟩ := pBind_inv h
 have b1 := (pGet_bd h1 hb).2.2.1
 have b2 := (pGet_bd h2 b1).2.2.1
 have q3 := pGet_bd h3 b2
 injection h with h
 injection h with h _
 subst h
 exact w4_of q3.1 q3.2.1
theorem alm_ty : ∀ bs x r, Bs bs → pAlm bs = .ok (x, r) → (W4 x.f1.f2 ∧ 0 ≤ x.f2 ∧ W4 x.f3 ∧ W4 x.f4) ∧ Bs r := fun bs x r hb h => by
 have hB := (alm_inv bs x r hb h).2
 refine ⟨?_, hB⟩
 unfold pAlm at h
 obtain ⟨a, r1, h1, h⟩ := pBind_inv h
 obtain ⟨b, r2, h2, h⟩ := pBind_inv h
 obtain ⟨c, r3, h3, h⟩ := pBind_inv h
 obtain ⟨d, r4, h4, h⟩ := pBind_inv h
 obtain ⟨e, r5, h5, h⟩ := pBind_inv h
 have b1 := (pGet_bd h1 hb).2.2.1
 have q2 := act_ty _ _ _ b1 h2
 have q3 := pGet_bd h3 q2.2
 have q4 := pGet_bd h4 q3.2.2.1
 have q5 := pGet_bd h5 q4.2.2.1
 injection h with h
 injection h with h _
 subst h
 exact ⟨q2.1, q3.1, w4_of q4.1 q4.2.1, w4_of q5.1 q5.2.1⟩
theorem msg_ty : ∀ bs x r, Bs bs → pMsg bs = .ok (x, r) → (0 ≤ x.f3 ∧ W4 x.f5.f2) ∧ Bs r := fun bs x r hb h => by
 have hB := (msg_inv bs x r hb h).2
 refine ⟨?_, hB⟩
 unfold pMsg at h
 obtain ⟨a, r1, h1, h⟩ := pBind_inv h
 obtain ⟨b, r2, h2, h⟩ := pBind_inv h
 obtain ⟨c, r3, h3, h⟩ := pBind_inv h
 obtain ⟨d, r4, h4, h⟩ := pBind_inv h
 obtain ⟨e, r5, h5, h⟩ := pBind_inv h
 obtain ⟨f, r6, h6, h⟩ := pBind_inv h
 have b1 := (pGet_bd h1 hb).2.2.1
 have b2 := (pGet_bd h2 b1).2.2.1
 have b3 := (pGet_bd h3 b2).2.2.1
 have q4 := pGet_bd h4 b3
 have b5 := (pGet_bd h5 q4.2.2.1).2.2.1
 have q6 := act_ty _ _ _ b5 h6
 injection h with h
 injection h with h _
 subst h
 exact ⟨q4.1, q6.1⟩
theorem rows_ty {h : HeadP} {bs r : List Int} {t : S33} (hb : Bs bs) (hq : pRows h bs = .ok (t, r)) : TyTab t := by
 unfold pRows at hq
 obtain ⟨t2, r2, h2, hq⟩ := pBind_inv hq
 obtain ⟨t3, r3, h3, hq⟩ := pBind_inv hq
 obtain ⟨t4, r4, h4, hq⟩ := pBind_inv hq
 obtain ⟨t5, r5, h5, hq⟩ := pBind_inv hq
 obtain ⟨t6, r6, h6, hq⟩ := pBind_inv hq
 obtain ⟨t7, r7, h7, hq⟩ := pBind_inv hq
 obtain ⟨t8, r8, h8, hq⟩ := pBind_inv hq
 obtain ⟨e2, b2⟩ := reps_all task_ty _ _ _ _ hb h2
 have b3 := (reps_inv ring_inv _ _ _ _ b2 h3).2.2
 have b4 := (reps_inv res_inv _ _ _ _ b3 h4).2.2
 have b5 := (reps_inv ctr_inv _ _ _ _ b4 h5).2.2
 obtain ⟨e6, b6⟩ := reps_all alm_ty _ _ _ _ b5 h6
 have b7 := (reps_inv isr_inv _ _ _ _ b6 h7).2.2
 obtain ⟨e8, b8⟩ := reps_all msg_ty _ _ _ _ b7 h8
 injection hq with hq
 injection hq with h9 h10
 subst h9 h10
 exact ⟨e2, e6, e8⟩
theorem img_ty {b : List Int} {t : S33} (hb : Bs b) (h : imgP b = .ok t) : TyTab t := by
 unfold imgP at h
 split at h
 ·cases h
 split at h
 ·cases h
 split at h
 ·cases h
 split at h
 ·cases h
 split at h
 ·cases h
 split at h
 ·cases h
 split at h
 ·cases h
 split at h
 ·cases h
 rename_i t' r hq
 split at h
 ·cases h
 split at h
 case isFalse => cases h
 injection h with h
 subst h
 exact rows_ty (mem_bs hb _ 28) hq
theorem tabE_ok {t : S33} (h : tabE t = 0) : tabOk t = true := by
 unfold tabE at h
 split at h
 ·rename_i h1; exact h1
 ·cases h
end Go.Proofs.Ytbgcemijihpakaa.XA
end
section
namespace Go.Proofs.Ytbgcemijihpakaa.XA
set_option linter.unusedVariables false
set_option linter.unusedSimpArgs false
open Go.RowKit Go.WideMaps Go.Maps Go.Proofs.YtbgcemijihpakaaW.PrintWords Go.Proofs.YtbgcemijihpakaaW.PrintLast Go.Proofs.YtbgcemijihpakaaW.PrintMore
theorem imgB_crc (t : S33) : leVal (leN 2 (crcL (imgB t))) = crcL (imgB t) ∧ (leN 2 (crcL (imgB t))).length = 2 := by
 have := crcL_bd (imgB t)
 exact ⟨leVal_leN this.1 (by omega), leN_full this.1 (by omega)⟩
theorem imgL_split (t : S33) : (imgL t).take ((imgL t).length - 2) = imgB t ∧ (imgL t).drop ((imgL t).length - 2) = leN 2 (crcL (imgB t)) := by
 have h2 := (imgB_crc t).2
 have hn : (imgL t).length = (imgB t).length + 2 := by unfold imgL; rw [List.length_append, h2]
 rw [hn, Nat.add_sub_cancel]
 exact ⟨List.take_left' rfl, List.drop_left' rfl⟩
theorem imgL_ge (t : S33) : 2 ≤ (imgL t).length := by
 have h2 := (imgB_crc t).2
 unfold imgL
 rw [List.length_append, h2]
 omega
theorem word_inj {x y : Int} (hx : 0 ≤ x ∧ x ≤ 255) (hy : 0 ≤ y ∧ y ≤ 255) (h : wordOf x = wordOf y) : x = y := by
 have := congrArg BitVec.toNat h
 unfold wordOf at this
 rw [BitVec.toNat_ofNat, BitVec.toNat_ofNat] at this
 omega
theorem crc_turned {l : List Int} (hb : Bs l) {k : Nat} (hk : k < l.length) {y : Int} (hy : 0 ≤ y ∧ y ≤ 255) (h : crcL (l.set k y) = crcL l) : y = l[k] := by
 have hx := hb _ (List.getElem_mem hk)
 have hc : crcB 65535#16 (l.set k y) = crcB 65535#16 l := by
  unfold crcL at h
  exact BitVec.eq_of_toNat_eq (by omega)
 rw [crcB_set y (wordOf l[k] ^^^ wordOf y) l k _ hk (by rw [← BitVec.xor_assoc, BitVec.xor_self, BitVec.zero_xor])] at hc
 have hz : stN (8 * (l.length - k)) (wordOf l[k] ^^^ wordOf y) = 0#16 := by
  have := congrArg (fun z => crcB 65535#16 l ^^^ z) hc
  simp only [← BitVec.xor_assoc, BitVec.xor_self, BitVec.zero_xor] at this
  exact this
 have := stN_zero _ _ hz
 refine (word_inj hx hy ?_).symm
 exact BitVec.xor_eq_zero_iff.mp this
theorem flip_same {t t' : S33} {k : Nat} (hk : k < (imgL t).length) {y : Int} (hy : 0 ≤ y ∧ y ≤ 255) (h : imgL t' = (imgL t).set k y) : y = (imgL t)[k] := by
 have s1 := imgL_split t
 have s2 := imgL_split t'
 have hn : (imgL t').length = (imgL t).length := by rw [h, List.length_set]
 have hge := imgL_ge t
 rw [hn, h] at s2
 by_cases hc : k < (imgL t).length - 2
 ·have hd : ((imgL t).set k y).drop ((imgL t).length - 2) = (imgL t).drop ((imgL t).length - 2) := List.drop_set_of_lt hc
  have ht : ((imgL t).set k y).take ((imgL t).length - 2) = ((imgL t).take ((imgL t).length - 2)).set k y := List.take_set ..
  rw [hd, s1.2] at s2
  rw [ht, s1.1] at s2
  have e : crcL (imgB t') = crcL (imgB t) := by rw [← (imgB_crc t').1, ← s2.2, (imgB_crc t).1]
  rw [← s2.1] at e
  have hkl : k < (imgB t).length := by rw [← s1.1, List.length_take]; omega
  have := crc_turned (imgB_bytes t) hkl hy e
  rw [this]
  exact (List.getElem_append_left hkl).symm
 ·have ht : ((imgL t).set k y).take ((imgL t).length - 2) = (imgL t).take ((imgL t).length - 2) := by
   rw [List.take_set, List.set_eq_of_length_le (by rw [List.length_take]; omega)]
  rw [ht, s1.1] at s2
  have e : imgL t' = imgL t := by
   unfold imgL
   rw [← s2.1]
  rw [h] at e
  have := congrArg (fun l => l[k]?) e
  simp only [List.getElem?_set_self hk, List.getElem?_eq_getElem hk] at this
  injection this
theorem imgL_len {t : S33} (h : Small t) : (imgL t).length = 30 + (encBody t).length ∧ (encBody t).length ≤ 60000000 := by
 have hl := encBody_len h.tab
 refine ⟨?_, hl⟩
 have hc : ∀ x ∈ cntsL t, 0 ≤ x ∧ x < 65536 := fun x hx => by
  have := h.n2; have := h.n3; have := h.n4; have := h.n5; have := h.n6; have := h.n7; have := h.n8
  unfold cntsL at hx
  simp only [List.mem_cons, List.not_mem_nil, or_false] at hx
  omega
 have hcl : ((cntsL t).flatMap (leN 2)).length = 14 := by
  have e : ∀ x ∈ cntsL t, (leN 2 x).length = 2 := fun x hx => leN_full (hc x hx).1 (by have := (hc x hx).2; omega)
  rw [List.length_flatMap, List.map_congr_left e]
  simp [cntsL]
 have hsl : (bytes1 [t.f0, t.f1, t.f9, t.f10, t.f11, t.f12]).length = 6 := by
  have h0 := h.f0; have h1 := h.f1; have h9 := h.f9; have h10 := h.f10; have h11 := h.f11; have h12 := h.f12
  unfold bytes1
  simp only [List.flatMap_cons, List.flatMap_nil, List.length_append, List.length_nil]
  rw [leN_full h0.1 (by have := h0.2; omega), leN_full h1.1 (by have := h1.2; omega), leN_full h9.1 (by have := h9.2; omega), leN_full h10.1 (by have := h10.2; omega), leN_full h11.1 (by have := h11.2; omega), leN_full h12.1 (by have := h12.2; omega)]
 have hL : (leN 4 (28 + ((encBody t).length : Int) + 2)).length = 4 := leN_full (by omega) (by omega)
 have h2 := (imgB_crc t).2
 unfold imgL
 rw [List.length_append, h2]
 unfold imgB
 simp only [List.length_append, hL, hcl, hsl, List.length_cons, List.length_nil]
 omega
theorem head8 {t : S33} (h : Small t) : (imgL t).take 8 = [84, 80, 84, 49] ++ leN 4 ((imgL t).length : Int) ∧ leVal (leN 4 ((imgL t).length : Int)) = (imgL t).length := by
 obtain ⟨hn, hl⟩ := imgL_len h
 have e : ((imgL t).length : Int) = 28 + ((encBody t).length : Int) + 2 := by omega
 rw [e]
 have hL : (leN 4 (28 + ((encBody t).length : Int) + 2)).length = 4 := leN_full (by omega) (by omega)
 refine ⟨?_, leVal_leN (by omega) (by omega)⟩
 unfold imgL
 conv => lhs; arg 2; arg 1; unfold imgB
 simp only [List.append_assoc]
 rw [← List.append_assoc]
 exact List.take_left' (by rw [List.length_append, hL]; rfl)
theorem len_of8 {t t' : S33} (h : Small t) (h' : Small t') (e : (imgL t').take 8 = (imgL t).take 8) : (imgL t').length = (imgL t).length := by
 obtain ⟨a, b⟩ := head8 h
 obtain ⟨a', b'⟩ := head8 h'
 rw [a, a'] at e
 have := List.append_cancel_left e
 rw [this] at b'
 omega
/-- an image with one byte turned, a beginning of it, it with more behind -/
theorem told {t : S33} (ht : tabOk t = true) (ty : TyTab t) :
  (∀ k (hk : k < (imgL t).length) y, 0 ≤ y ∧ y ≤ 255 → (∃ t', imgP ((imgL t).set k y) = .ok t') → y = (imgL t)[k]) ∧
  (∀ k, k < (imgL t).length → ∀ t', imgP ((imgL t).take k) ≠ .ok t') ∧
  (∀ more, Bs more → (∃ t', imgP (imgL t ++ more) = .ok t') → more = []) := by
 have hs := small_of ht ty
 have hB : Bs (imgL t) := imgL_bytes t
 have of : ∀ b t', Bs b → imgP b = .ok t' → imgL t' = b ∧ Small t' := fun b t' hb h => by
  have hi := img_inv hb h
  exact ⟨hi.eq, small_of (tabE_ok hi.ok) (img_ty hb h)⟩
 refine ⟨fun k hk y hy ⟨t', h⟩ => ?_, fun k hk t' h => ?_, fun more hm ⟨t', h⟩ => ?_⟩
 ·have hb : Bs ((imgL t).set k y) := fun z hz => by
   rcases List.mem_or_eq_of_mem_set hz with hz | rfl
   ·exact hB z hz
   ·exact hy
  exact flip_same hk hy (of _ _ hb h).1
 ·obtain ⟨e, s'⟩ := of _ _ (fun z hz => hB z (List.mem_of_mem_take hz)) h
  have h30 := (imgL_len s').1
  have hl : (imgL t').length = k := by rw [e, List.length_take]; omega
  have := len_of8 hs s' (by rw [e, List.take_take, Nat.min_eq_left (by omega)])
  omega
 ·obtain ⟨e, s'⟩ := of _ _ (fun z hz => by
   rcases List.mem_append.mp hz with hz | hz
   ·exact hB z hz
   ·exact hm z hz) h
  have h30 := (imgL_len hs).1
  have := len_of8 hs s' (by rw [e, List.take_append_of_le_length (by omega)])
  rw [e, List.length_append] at this
  exact List.length_eq_zero_iff.mp (by omega)
end Go.Proofs.Ytbgcemijihpakaa.XA
end
