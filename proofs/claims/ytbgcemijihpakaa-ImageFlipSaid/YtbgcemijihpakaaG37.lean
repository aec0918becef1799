/- image.Parts: a part's row; plain: the parts. -/
import Derived.Test.YtbgcemijihpakaaG35
import Derived.Test.YtbgcemijihpakaaG36
namespace Go.Proofs.Ytbgcemijihpakaa.XA
set_option linter.unusedVariables false
set_option linter.unusedSimpArgs false
open Go.RowKit Go.WideMaps Go.Maps Go.Proofs.YtbgcemijihpakaaW.PrintWords Go.Proofs.YtbgcemijihpakaaW.PrintLast Go.Proofs.YtbgcemijihpakaaW.PrintMore
structure S51 where
 f0 : Int
 f1 : Int
 f2 : Int
 f3 : Int
def z51 : S51 := ⟨0, 0, 0, 0⟩
def k51 : Kd S51 := Kd.iso (Kd.pair (Kd.int .i64) (Kd.pair (Kd.int .i64) (Kd.pair (Kd.int .i64) (Kd.int .i64)))) (fun x : S51 => (x.f0, x.f1, x.f2, x.f3))
theorem k51_open {w : World} {x : S51} {cs : List Value} (h : k51.K w x cs) : cs = [.int .i64 x.f0, .int .i64 x.f1, .int .i64 x.f2, .int .i64 x.f3] := by
 obtain ⟨_, _, rfl, rfl, ⟨_, _, rfl, rfl, ⟨_, _, rfl, rfl, rfl⟩⟩⟩ := h
 exact rfl
theorem k51_mkM (w : World) (base : Nat) (ok : Nat → Prop) (x : S51) : k51.M w base ok x [.int .i64 x.f0, .int .i64 x.f1, .int .i64 x.f2, .int .i64 x.f3] := ⟨[.int .i64 x.f0], [.int .i64 x.f1, .int .i64 x.f2, .int .i64 x.f3], rfl, rfl, ⟨[.int .i64 x.f1], [.int .i64 x.f2, .int .i64 x.f3], rfl, rfl, ⟨[.int .i64 x.f2], [.int .i64 x.f3], rfl, rfl, rfl⟩⟩⟩
theorem inf51 : (Try.prog.info? 51).map (fun i => (i.zero, i.size, i.bytes)) = some (some (.agg #[(.int .i64 0), (.int .i64 0), (.int .i64 0), (.int .i64 0)]), 4, 32) := by kernel_rfl
structure At51 (w : World) (p : Addr) (t : S51) : Prop where
 cells : ∀ j v, [.int .i64 t.f0, .int .i64 t.f1, .int .i64 t.f2, .int .i64 t.f3][j]? = some v → w.cell? (p.add j) = some v
theorem At51.below {w w1 : World} {p : Addr} {t : S51} (h : At51 w p t) (hB : Below w.heap.size w w1) : At51 w1 p t := ⟨fun j v hj => (hB.cell (World.block_lt_of_cell? w _ (h.cells j v hj))).trans (h.cells j v hj)⟩
theorem At51.g0 {w : World} {p : Addr} {t : S51} (h : At51 w p t) : w.cell? p = some (.int .i64 t.f0) := by have := h.cells 0 _ rfl; rwa [add0] at this
theorem At51.g1 {w : World} {p : Addr} {t : S51} (h : At51 w p t) : w.cell? ⟨p.block, p.off + 1, none⟩ = some (.int .i64 t.f1) := h.cells 1 _ rfl
theorem At51.g2 {w : World} {p : Addr} {t : S51} (h : At51 w p t) : w.cell? ⟨p.block, p.off + 2, none⟩ = some (.int .i64 t.f2) := h.cells 2 _ rfl
theorem At51.g3 {w : World} {p : Addr} {t : S51} (h : At51 w p t) : w.cell? ⟨p.block, p.off + 3, none⟩ = some (.int .i64 t.f3) := h.cells 3 _ rfl
section
variable {ops : Array Oper} {o : Oper} {rest : List Oper} {a : Act}
theorem agg51 (w : World) : (isAgg 51).run Try.prog w = .ok true w := by kernel_rfl
theorem size51 (w : World) : (sizeOf 51).run Try.prog w = .ok 4 w := by kernel_rfl
theorem run51 {w : World} {p : Addr} {t : S51} (hX : At51 w p t) (y : Operand) (ho : o.op = .load 51 y) (hy : a.eval y = .pointer (some p)) : (execOp a.eval o).run Try.prog w = .ok (.value (.agg #[.int .i64 t.f0, .int .i64 t.f1, .int .i64 t.f2, .int .i64 t.f3])) w := by
 have hl := load_agg (w := w) (t := 51) (n := 4) (a := p) (cs := [.int .i64 t.f0, .int .i64 t.f1, .int .i64 t.f2, .int .i64 t.f3]) agg51 size51 rfl hX.cells
 simp only [execOp, ho, hy]
 simp [hl, Result.andThen]
end
theorem part_at {w : World} {A : Option Addr} {xs : List S51} (h : k51.C w A xs.length xs) (k : Nat) (hk : k < xs.length) : ∃ t ad, xs.getD k z51 = t ∧ A = some ad ∧ At51 w (ad.add (k * 4)) t := by
 obtain ⟨ad, c, e, _, hK, hc0⟩ := Kd.C_get h z51 (k : Int) (by omega) (by omega)
 rw [Int.toNat_natCast] at hK hc0
 obtain rfl := k51_open hK
 exact ⟨_, ad, rfl, e, ⟨fun j v hj => by rw [add_add]; exact hc0 j v hj⟩⟩
/-- where a part begins, counted from the first row -/
def mk (t : S33) (i : Nat) : Int := (marks 0 (parts t)).getD i 0
def partRow (t : S33) (i : Nat) : S51 := ⟨(i : Int) + 2, 28 + mk t i, mk t (i + 1) - mk t i, (cntsL t).getD i 0⟩
def partsN (t : S33) (k : Nat) : List S51 := ⟨1, 0, 28, 1⟩ :: (List.range k).map (partRow t)
def partsL (t : S33) (n : Int) : List S51 := partsN t 7 ++ [⟨9, n - 2, 2, 1⟩]
theorem partsN_succ (t : S33) (k : Nat) : partsN t (k + 1) = partsN t k ++ [partRow t k] := by unfold partsN; rw [List.range_succ, List.map_append]; rfl
theorem partsN_len (t : S33) (k : Nat) : (partsN t k).length = k + 1 := by unfold partsN; simp
theorem marks_len (n : Nat) (ps : List (List Int)) : (marks n ps).length = ps.length + 1 := by
 induction ps generalizing n with
 | nil => rfl
 | cons p l ih => simp only [marks, List.length_cons, ih]
theorem mk8 (t : S33) : (marks 0 (parts t)).length = 8 := by rw [marks_len]; rfl
theorem marks_bd (n : Nat) (ps : List (List Int)) : ∀ x ∈ marks n ps, (n : Int) ≤ x ∧ x ≤ n + (ps.flatten.length : Int) := by
 induction ps generalizing n with
 | nil => intro x hx; simp [marks] at hx; subst hx; simp
 | cons p l ih =>
  intro x hx
  simp only [marks, List.mem_cons] at hx
  simp only [List.flatten_cons, List.length_append]
  rcases hx with rfl | hx
  ·omega
  ·have := ih (n + p.length) x hx
   omega
theorem mk_bd {t : S33} (h : (encBody t).length ≤ 60000000) {i : Nat} (hi : i < 8) : 0 ≤ mk t i ∧ mk t i ≤ 60000000 := by
 have := marks_bd 0 (parts t) (mk t i) (by unfold mk; exact getD_mem (by rw [mk8]; exact hi))
 unfold encBody at h
 omega
/-! ### no refusal bears the code 0 -/
theorem pGet_err {n : Nat} {bs : List Int} {c : Int} (h : pGet n bs = .error c) : c = 101 := by
 unfold pGet at h
 split at h
 ·cases h
 ·injection h with h; exact h.symm
def Err {α : Type} (p : Rd α) : Prop := ∀ bs c, p bs = .error c → c ≠ 0
theorem err_get (n : Nat) : Err (pGet n) := fun bs c h => by rw [pGet_err h]; decide
theorem err_ret {α : Type} (x : α) : Err (pRet x) := fun bs c h => by cases h
theorem err_bind {α β : Type} {p : Rd α} {f : α → Rd β} (hp : Err p) (hf : ∀ x, Err (f x)) : Err (pBind p f) := fun bs c h => by
 rcases hq : p bs with c' | ⟨x, r⟩
 ·rw [pBind_no hq] at h
  injection h with h
  subst h
  exact hp _ _ hq
 ·rw [pBind_ok hq] at h
  exact hf _ _ _ h
theorem err_reps {α : Type} {p : Rd α} (hp : Err p) : ∀ n, Err (pReps p n)
 | 0 => fun bs c h => by cases h
 | n + 1 => fun bs c h => by
  simp only [pReps] at h
  rcases hq : p bs with c' | ⟨x, r1⟩
  ·rw [hq] at h
   injection h with h
   subst h
   exact hp _ _ hq
  ·rw [hq] at h
   rcases h2 : pReps p n r1 with c' | ⟨l, s⟩
   ·simp only [h2] at h
    injection h with h
    subst h
    exact err_reps hp n _ _ h2
   ·simp only [h2] at h; cases h
theorem err_list : Err pList := fun bs c h => by
 unfold pList at h
 rcases hq : pGet 1 bs with c' | ⟨x, r1⟩
 ·rw [hq] at h
  injection h with h
  subst h
  exact err_get 1 _ _ hq
 ·rw [hq] at h
  exact err_reps (err_get 1) _ _ _ h
theorem err_if {α : Type} {b : Prop} [Decidable b] {x : α} : Err (if b then pErr 103 else pRet x) := fun bs c h => by
 split at h
 ·injection h with h; subst h; decide
 ·cases h
theorem err_ring : Err pRing := err_bind (err_get 1) fun _ => err_bind (err_get 2) fun _ => err_ret _
theorem err_res : Err pRes := err_bind (err_get 1) fun _ => err_bind (err_get 1) fun _ => err_if
theorem err_ctr : Err pCtr := err_bind (err_get 4) fun _ => err_bind (err_get 4) fun _ => err_bind (err_get 4) fun _ => err_ret _
theorem err_act : Err pAct := err_bind (err_get 1) fun _ => err_bind (err_get 1) fun _ => err_bind (err_get 4) fun _ => err_ret _
theorem err_alm : Err pAlm := err_bind (err_get 1) fun _ => err_bind err_act fun _ => err_bind (err_get 1) fun _ => err_bind (err_get 4) fun _ => err_bind (err_get 4) fun _ => err_ret _
theorem err_isr : Err pIsr := err_bind (err_get 1) fun _ => err_bind (err_get 1) fun _ => err_bind err_list fun _ => err_ret _
theorem err_msg : Err pMsg := err_bind (err_get 1) fun _ => err_bind (err_get 1) fun _ => err_bind (err_get 1) fun _ => err_bind (err_get 8) fun _ => err_bind (err_get 1) fun _ => err_bind err_act fun _ => err_ret _
theorem err_task : Err pTask := err_bind (err_get 1) fun _ => err_bind (err_get 1) fun _ => err_bind (err_get 1) fun _ => err_bind (err_get 1) fun _ => err_bind (err_get 4) fun _ => err_bind (err_get 1) fun _ => err_bind err_list fun _ => err_bind (err_get 1) fun _ => err_if
theorem err_six (s : Int) (ns : List Int) : Err (pSix s ns) := err_bind (err_get 1) fun _ => err_bind (err_get 1) fun _ => err_bind (err_get 1) fun _ => err_bind (err_get 1) fun _ => err_bind (err_get 1) fun _ => err_bind (err_get 1) fun _ => err_ret _
theorem err_rows (h : HeadP) : Err (pRows h) := err_bind (err_reps err_task _) fun _ => err_bind (err_reps err_ring _) fun _ => err_bind (err_reps err_res _) fun _ => err_bind (err_reps err_ctr _) fun _ => err_bind (err_reps err_alm _) fun _ => err_bind (err_reps err_isr _) fun _ => err_bind (err_reps err_msg _) fun _ => err_ret _
theorem imgP_err {b : List Int} {c : Int} (h : imgP b = .error c) : c ≠ 0 := by
 unfold imgP at h
 split at h
 ·injection h with h; subst h; decide
 split at h
 ·injection h with h; subst h; decide
 split at h
 ·rename_i c' hq; injection h with h; subst h; exact err_get 4 _ _ hq
 split at h
 ·injection h with h; subst h; decide
 split at h
 ·injection h with h; subst h; decide
 split at h
 ·rename_i c' hq; injection h with h; subst h; exact err_reps (err_get 2) _ _ _ hq
 split at h
 ·rename_i c' hq; injection h with h; subst h; exact err_six _ _ _ _ hq
 split at h
 ·rename_i c' hq; injection h with h; subst h; exact err_rows _ _ _ hq
 split at h
 ·injection h with h; subst h; decide
 split at h
 ·cases h
 ·injection h with h; subst h; decide
end Go.Proofs.Ytbgcemijihpakaa.XA
