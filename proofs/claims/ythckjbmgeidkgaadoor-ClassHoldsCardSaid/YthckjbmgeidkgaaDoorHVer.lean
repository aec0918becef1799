/- verdicts: compared; what a configuration without a refusal has. -/
import Derived.Test.YthckjbmgeidkgaaDoorHCheck
import Derived.Test.YthckjbmgeidkgaaDoorWEqStruct
namespace Go.Proofs.YthckjbmgeidkgaaDoor.XA
set_option linter.unusedVariables false
set_option linter.unusedSimpArgs false
open Go.RowKit Go.WideMaps Go.Maps Go.Proofs.YthckjbmgeidkgaaDoorW.PrintWords Go.Proofs.YthckjbmgeidkgaaDoorW.PrintLast Go.Proofs.YthckjbmgeidkgaaDoorW.PrintMore
abbrev Ver := Int × ByteArray × Int
def vA (v : Ver) : Value := .agg #[.int .i64 v.1, .string v.2.1, .int .i64 v.2.2]
def okVer : Ver := (0, ⟨#[]⟩, 0)
def eqV (a b : Ver) : Bool := a.1 == b.1 && (a.2.1.toList == b.2.1.toList && a.2.2 == b.2.2)
theorem eqV_iff {a b : Ver} : eqV a b = true ↔ a = b := by
  unfold eqV
  rw [Bool.and_eq_true, Bool.and_eq_true, beq_iff_eq, beq_iff_eq, beq_iff_eq]
  constructor
  · rintro ⟨h1, h2, h3⟩
    obtain ⟨a1, a2, a3⟩ := a
    obtain ⟨b1, b2, b3⟩ := b
    simp only at h1 h2 h3
    have h2 : a2 = b2 := by
      rw [ByteArray.toList_eq a2, ByteArray.toList_eq b2] at h2
      cases a2 with
      | mk x =>
        cases b2 with
        | mk y =>
          have : x = y := Array.toList_inj.mp h2
          rw [this]
    rw [h1, h2, h3]
  · rintro rfl
    exact ⟨rfl, rfl, rfl⟩
theorem eqA36 (d : Nat) (w : World) (x y : Ver) : (Op.equalIn (d + 2) 36 (vA x) (vA y)).run Tryd.prog w = .ok (eqV x y) w := by
  unfold eqV vA
  refine eqA_of Tryd.underlying36 (by kernel_rfl) ?_
  refine eqf_cons (by rfl) (by go_simp; rfl) (by go_simp; rfl) (by go_simp) ?_
  refine eqf_cons (by rfl) (by go_simp; rfl) (by go_simp; rfl) (by go_simp) ?_
  exact eqf_last (by rfl) (by go_simp; rfl) (by go_simp; rfl) (by go_simp)
theorem eq36 (w : World) (x y : Ver) : (binOp .eql 36 (vA x) (vA y)).run Tryd.prog w = .ok (.bool (eqV x y)) w := by
  unfold vA
  rw [run_eql_struct]
  have := eqA36 9998 w x y
  unfold vA at this
  rw [this]
  rfl
theorem neq36 (w : World) (x y : Ver) : (binOp .neq 36 (vA x) (vA y)).run Tryd.prog w = .ok (.bool (!eqV x y)) w := by
  unfold vA
  rw [run_neq_struct]
  have := eqA36 9998 w x y
  unfold vA at this
  rw [this]
  rfl
theorem run_eq36 {o : Oper} {a : Act} (w : World) (s t : Ver) (x y : Operand) (ho : o.op = .binOp .eql 36 x y 36) (hx : a.eval x = vA s) (hy : a.eval y = vA t) : (execOp a.eval o).run Tryd.prog w = .ok (.value (.bool (eqV s t))) w := by
  have hg := run_eqGuard_agg (P := Tryd.prog) (w := w) .eql 36 x y #[.int .i64 s.1, .string s.2.1, .int .i64 s.2.2] #[.int .i64 t.1, .string t.2.1, .int .i64 t.2.2] (by kernel_rfl)
  have hn := eq36 w s t
  unfold vA at hx hy hn
  simp only [execOp, ho, hx, hy]
  simp [hg, hn, Result.andThen]
theorem run_neq36 {o : Oper} {a : Act} (w : World) (s t : Ver) (x y : Operand) (ho : o.op = .binOp .neq 36 x y 36) (hx : a.eval x = vA s) (hy : a.eval y = vA t) : (execOp a.eval o).run Tryd.prog w = .ok (.value (.bool (!eqV s t))) w := by
  have hg := run_eqGuard_agg (P := Tryd.prog) (w := w) .neq 36 x y #[.int .i64 s.1, .string s.2.1, .int .i64 s.2.2] #[.int .i64 t.1, .string t.2.1, .int .i64 t.2.2] (by kernel_rfl)
  have hn := neq36 w s t
  unfold vA at hx hy hn
  simp only [execOp, ho, hx, hy]
  simp [hg, hn, Result.andThen]
theorem check_v (V : CV) (c : S33) (w : World) (h : Cf w V c) (hg : GlobAt w) : Calls Tryd.prog 7 #[.agg (arr V c)] w fun e w' => e = .returned (vA (verV c)) ∧ Below w.heap.size w w' := check_calls V c w h hg
/-! ### a configuration without a refusal -/
theorem firstF_all (f : Nat → Int) : ∀ (m i : Nat), firstF f m i = none → ∀ j, j < m → f (i + j) = 0
  | 0, _, _, j, h => by omega
  | m + 1, i, h, j, hj => by
    unfold firstF at h
    by_cases h0 : f i ≠ 0
    · rw [if_pos h0] at h
      cases h
    · rw [if_neg h0] at h
      rcases j with _ | j
      · simpa using h0
      · have := firstF_all f m (i + 1) h j (by omega)
        rw [show i + (j + 1) = i + 1 + j by omega]
        exact this
theorem errF_all (c : S33) (i : Nat) : ∀ (Es : List (S33 → Nat → Int)), errF Es c i = 0 → ∀ E ∈ Es, E c i = 0
  | [], _, E, h => by simp at h
  | E0 :: r, h, E, hE => by
    unfold errF at h
    by_cases h0 : E0 c i ≠ 0
    · rw [if_pos h0] at h
      exact absurd h h0
    · rw [if_neg h0] at h
      rcases List.mem_cons.mp hE with rfl | hE
      · simpa using h0
      · exact errF_all c i r h E hE
theorem objV_all {nm : S33 → Nat → ByteArray} {Es : List (S33 → Nat → Int)} {c : S33} {i : Nat} (h : objV nm Es c i = 0) : nameB (nm c i) = true ∧ memS ((List.range i).map (nm c)) (nm c i) = false ∧ ∀ E ∈ Es, E c i = 0 := by
  unfold objV at h
  rcases h1 : nameB (nm c i) with _ | _
  · rw [h1] at h
    simp at h
  · rcases h2 : memS ((List.range i).map (nm c)) (nm c i) with _ | _
    · rw [h1, h2] at h
      exact ⟨rfl, rfl, errF_all c i Es (by simpa using h)⟩
    · rw [h1, h2] at h
      simp at h
structure Kind.Fine (K : Kind) (c : S33) : Prop where
  lo : K.lo ≤ (K.n c : Int)
  hi : (K.n c : Int) ≤ K.hi
  name : ∀ i, i < K.n c → nameB (K.nm c i) = true
  new : ∀ i, i < K.n c → memS ((List.range i).map (K.nm c)) (K.nm c i) = false
  chk : ∀ i, i < K.n c → ∀ E ∈ K.Es, E c i = 0
theorem look_fine {K : Kind} {c : S33} (h : K.look c = none) : K.Fine c := by
  unfold Kind.look at h
  by_cases h0 : (K.n c : Int) < K.lo ∨ K.hi < (K.n c : Int)
  · rw [if_pos h0] at h
    cases h
  · rw [if_neg h0] at h
    have ho := fun i hi => objV_all (show objV K.nm K.Es c i = 0 from by have := firstF_all _ _ _ h i hi; rwa [Nat.zero_add] at this)
    exact ⟨by omega, by omega, fun i hi => (ho i hi).1, fun i hi => (ho i hi).2.1, fun i hi => (ho i hi).2.2⟩
theorem verF_ok : ∀ (Ks : List Kind) (c : S33), (∀ K ∈ Ks, K.word ≠ ⟨#[]⟩) → verF Ks c = okVer → ∀ K ∈ Ks, K.look c = none
  | [], _, _, _, K, h => by simp at h
  | K0 :: r, c, hw, h, K, hK => by
    unfold verF at h
    rcases hl : K0.look c with _ | ⟨code, id⟩
    · rw [hl] at h
      rcases List.mem_cons.mp hK with rfl | hK
      · exact hl
      · exact verF_ok r c (fun q hq => hw q (List.mem_cons_of_mem _ hq)) h K hK
    · rw [hl] at h
      unfold okVer at h
      injection h with _ h
      injection h with h _
      exact absurd h (hw K0 (List.mem_cons_self ..))
theorem words : ∀ K ∈ kinds, K.word ≠ ⟨#[]⟩ := by
  intro K hK
  unfold kinds at hK
  simp only [List.mem_cons, List.not_mem_nil, or_false] at hK
  rcases hK with rfl | rfl | rfl | rfl | rfl | rfl | rfl | rfl | rfl | rfl <;> exact fun h => by
    have := congrArg ByteArray.size h
    revert this
    decide
theorem ver_fine {c : S33} (h : verV c = okVer) : ∀ K ∈ kinds, K.Fine c := fun K hK => look_fine (verF_ok kinds c words h K hK)
theorem task_fine {c : S33} (h : verV c = okVer) (i : Nat) (hi : i < c.f3.length) : taskVal (c.f3.getD i z49) = true ∧ taskRefs c (c.f3.getD i z49) = true ∧ (c.f3.getD i z49).f6.length ≤ 32 ∧ taskRules c (c.f3.getD i z49) = true := by
  have hk := (ver_fine h kind5 (by simp [kinds])).chk i hi
  have h1 := hk eTaskVal (by simp [kind5])
  have h2 := hk eTaskRefs (by simp [kind5])
  have h3 := hk eTaskOver (by simp [kind5])
  have h4 := hk eTaskRules (by simp [kind5])
  unfold eTaskVal at h1
  unfold eTaskRefs at h2
  unfold eTaskOver at h3
  unfold eTaskRules at h4
  refine ⟨?_, ?_, ?_, ?_⟩
  · by_cases h : taskVal (c.f3.getD i z49) = true
    · exact h
    · rw [if_neg h] at h1; cases h1
  · by_cases h : taskRefs c (c.f3.getD i z49) = true
    · exact h
    · rw [if_neg h] at h2; cases h2
  · by_cases h : (c.f3.getD i z49).f6.length ≤ 32
    · exact h
    · rw [if_neg h] at h3; cases h3
  · by_cases h : taskRules c (c.f3.getD i z49) = true
    · exact h
    · rw [if_neg h] at h4; cases h4
end Go.Proofs.YthckjbmgeidkgaaDoor.XA
