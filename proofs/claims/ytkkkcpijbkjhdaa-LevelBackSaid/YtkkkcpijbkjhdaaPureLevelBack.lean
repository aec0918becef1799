/- LevelBack: names and numbers there and back; what a routine of a hook may call changes no task; every service but StartOS may be called by a task. Conditions: the three numbers are numbers of 64 bits. -/
import Derived.Test.YtkkkcpijbkjhdaaHPure
import Derived.Test.YtkkkcpijbkjhdaaXAx3
namespace Go.Proofs.Ytkkkcpijbkjhdaa.Pure
open Go.RowKit Go.Proofs.Ytkkkcpijbkjhdaa.XA Go.Proofs.YtkkkcpijbkjhdaaW.PrintWords Go.Proofs.YtkkkcpijbkjhdaaW.PrintLast

def codes : List Int := (List.range 37).map Int.ofNat
theorem status_code (x : Int) (h : (statusP x).data.toList ≠ []) : x ∈ codes := by
  by_cases h0 : 0 ≤ x ∧ x ≤ 36
  · exact List.mem_map.mpr ⟨x.toNat, by rw [List.mem_range]; omega, Int.toNat_of_nonneg h0.1⟩
  · exfalso
    apply h
    unfold statusP
    repeat rw [if_neg (by omega)]
theorem status_back : codes.all (fun x => decide ((statusP x).data.toList = [] ∨ ((statusP x).size ≤ 100 ∧ statusOfP (statusP x) = (x, true)))) = true := by
  unfold statusOfP
  rw [stL_data]
  decide +kernel
theorem status_apart : codes.all (fun x => codes.all fun y => decide ((statusP x).data.toList = [] ∨ x = y ∨ (statusP y).data.toList ≠ (statusP x).data.toList)) = true := by
  decide +kernel
def changes (x : Int) : Bool := decide (x ≥ 4 ∧ x ≤ 7) || decide (x ≥ 16 ∧ x ≤ 19) || decide (x = 21) || decide (x ≥ 24 ∧ x ≤ 26)
theorem rows_back : svL.all (fun r => decide (r.f1.data.toList ≠ [] ∧ numberP r.f1 = (r.f0, true) ∧ ¬ (findP r.f0).2.2.1 < 0 ∧ (mayP r.f0 1 != (r.f0 != 1)) = false ∧ (findP r.f0).2.1.data.toList = r.f1.data.toList)) = true := by
  decide +kernel
theorem rows_apart : svL.all (fun r => svL.all fun r' => decide (r.f0 = r'.f0 ∨ r'.f1.data.toList ≠ r.f1.data.toList)) = true := by
  decide +kernel
theorem rows_hook : svL.all (fun r => [4, 5, 6, 7, 8].all fun l => !(changes r.f0 && mayP r.f0 l)) = true := by
  decide +kernel

theorem find_none (n : Int) (h : svL.find? (fun r => decide (r.f0 = n)) = none) : findP n = (0, ⟨#[]⟩, -1, 0, false) := by
  unfold findP
  rw [h]
theorem find_some (n : Int) (r : S56) (h : svL.find? (fun r => decide (r.f0 = n)) = some r) : r ∈ svL ∧ r.f0 = n :=
  ⟨List.mem_of_find?_eq_some h, by simpa using List.find?_some h⟩

theorem j4_ok (k : Nat) (hk : 32 < k) (n l : Int) (p q : Bool) (h : p = true → q = true → mayP n l = false) : tappetlaw17_LevelBack.j4 (k + 1) n l p q = some true := by
  rw [tappetlaw17_LevelBack.j4, may_f k hk, heads_f k hk]
  cases p
  · rfl
  · cases q
    · rfl
    · rw [h rfl rfl]
      rfl
theorem hook_ok (n l : Int) (h1 : l ≥ 4) (h2 : l ≤ 8) (hc : changes n = true) : mayP n l = false := by
  cases hf : svL.find? (fun r => decide (r.f0 = n)) with
  | none => unfold mayP; rw [find_none n hf]; rfl
  | some r =>
    obtain ⟨hm, rfl⟩ := find_some n r hf
    have h := List.all_eq_true.mp (List.all_eq_true.mp rows_hook r hm)
    have hl : l ∈ ([4, 5, 6, 7, 8] : List Int) := by
      rcases (by omega : l = 4 ∨ l = 5 ∨ l = 6 ∨ l = 7 ∨ l = 8) with rfl | rfl | rfl | rfl | rfl <;> simp
    have := h l hl
    rw [hc] at this
    simpa using this
theorem j3_ok (k : Nat) (hk : 32 < k) (n l : Int) (p : Bool) (h : p = true → l ≥ 4 ∧ l ≤ 8) : tappetlaw17_LevelBack.j3 (k + 2) n l p = some true := by
  have H : ∀ q : Bool, (q = true → changes n = true) → tappetlaw17_LevelBack.j4 (k + 1) n l p q = some true := fun q hq =>
    j4_ok k hk n l p q fun hp hq' => hook_ok n l (h hp).1 (h hp).2 (hq hq')
  have C : ∀ q : Bool, q = true → (4 ≤ n ∧ n ≤ 7 ∨ 16 ≤ n ∧ n ≤ 19 ∨ n = 21 ∨ 24 ≤ n ∧ n ≤ 26) → changes n = true := by
    intro q _ hq
    unfold changes
    rcases hq with hq | hq | hq | hq <;> simp [hq]
  rw [tappetlaw17_LevelBack.j3]
  by_cases a1 : n ≥ 4
  · rw [if_pos a1]
    by_cases a2 : n ≤ 7
    · rw [if_pos a2]; exact H _ fun q => C _ q (by omega)
    · rw [if_neg a2]
      by_cases a3 : n ≥ 16
      · rw [if_pos a3]
        by_cases a4 : n ≤ 19
        · rw [if_pos a4]; exact H _ fun q => C _ q (by omega)
        · rw [if_neg a4]
          by_cases a5 : n = 21
          · rw [if_pos a5]; exact H _ fun q => C _ q (by omega)
          · rw [if_neg a5]
            by_cases a6 : n ≥ 24
            · rw [if_pos a6]; exact H _ fun q => C _ q (by have := of_decide_eq_true q; omega)
            · rw [if_neg a6]; exact H _ (by simp)
      · rw [if_neg a3]
        by_cases a5 : n = 21
        · rw [if_pos a5]; exact H _ fun q => C _ q (by omega)
        · rw [if_neg a5]
          by_cases a6 : n ≥ 24
          · rw [if_pos a6]; exact H _ fun q => C _ q (by have := of_decide_eq_true q; omega)
          · rw [if_neg a6]; exact H _ (by simp)
  · rw [if_neg a1]
    by_cases a3 : n ≥ 16
    · rw [if_pos a3]
      by_cases a4 : n ≤ 19
      · rw [if_pos a4]; exact H _ fun q => C _ q (by omega)
      · rw [if_neg a4]
        by_cases a5 : n = 21
        · rw [if_pos a5]; exact H _ fun q => C _ q (by omega)
        · rw [if_neg a5]
          by_cases a6 : n ≥ 24
          · rw [if_pos a6]; exact H _ fun q => C _ q (by have := of_decide_eq_true q; omega)
          · rw [if_neg a6]; exact H _ (by simp)
    · rw [if_neg a3]
      by_cases a5 : n = 21
      · rw [if_pos a5]; exact H _ fun q => C _ q (by omega)
      · rw [if_neg a5]
        by_cases a6 : n ≥ 24
        · rw [if_pos a6]; exact H _ fun q => C _ q (by have := of_decide_eq_true q; omega)
        · rw [if_neg a6]; exact H _ (by simp)
theorem j2_ok (k : Nat) (hk : 32 < k) (n l : Int) : tappetlaw17_LevelBack.j2 (k + 3) n l = some true := by
  rw [tappetlaw17_LevelBack.j2]
  by_cases a : l ≥ 4
  · rw [if_pos a]; exact j3_ok k hk n l _ fun q => ⟨a, of_decide_eq_true q⟩
  · rw [if_neg a]; exact j3_ok k hk n l _ (by simp)
theorem j1_ok (k : Nat) (hk : 32 < k) (n m l : Int) : tappetlaw17_LevelBack.j1 (k + 4) n m l = some true := by
  rw [tappetlaw17_LevelBack.j1]
  unfold level_Status.f level_StatusOf.f
  rw [Option.bind_some, j2_ok k hk]
  simp only [ByteArray.toList_eq]
  by_cases e : (statusP n).data.toList = []
  · rw [if_pos e]
  · rw [if_neg e]
    have hm := status_code n e
    have hb := of_decide_eq_true (List.all_eq_true.mp status_back n hm)
    obtain ⟨hb1, hb2⟩ := hb.resolve_left e
    rw [if_pos (by omega), hb2, Option.bind_some, if_pos rfl, if_pos rfl]
    by_cases e2 : n = m
    · rw [if_pos e2]
    · rw [if_neg e2, Option.bind_some]
      rw [if_neg]
      intro he
      have hm2 := status_code m (by rw [he]; exact e)
      have ha := of_decide_eq_true (List.all_eq_true.mp (List.all_eq_true.mp status_apart n hm) m hm2)
      rcases ha with ha | ha | ha
      · exact e ha
      · exact e2 ha
      · exact ha he
theorem LevelBack : tappetlaw17_LevelBack.Pure := by
  intro a0 a1 a2 _ _ _
  refine ⟨60, ?_⟩
  unfold tappetlaw17_LevelBack.f
  have J1 : tappetlaw17_LevelBack.j1 60 a0 a1 a2 = some true := j1_ok 56 (by omega) a0 a1 a2
  rw [name_f 60 (by omega), Option.bind_some, J1]
  simp only [ByteArray.toList_eq]
  cases hf : svL.find? (fun r => decide (r.f0 = a0)) with
  | none => rw [find_none a0 hf]; rfl
  | some r =>
    obtain ⟨hm, rfl⟩ := find_some a0 r hf
    obtain ⟨h1, h2, h3, h4, h5⟩ := of_decide_eq_true (List.all_eq_true.mp rows_back r hm)
    have hF : findP r.f0 = (r.f0, r.f1, r.f2, r.f3, true) := by unfold findP; rw [hf]
    have hsz := of_decide_eq_true (List.all_eq_true.mp svL_ok r hm)
    have J0 : tappetlaw17_LevelBack.j0 60 r.f0 a1 a2 false = some true := by
      rw [tappetlaw17_LevelBack.j0, may_f 59 (by omega), Option.bind_some, h4]
      exact j1_ok 55 (by omega) _ _ _
    rw [params_f 60 (by omega), name_f 60 (by omega), J0, if_neg (by rw [h5]; exact h1)]
    rw [hF]
    unfold level_Number.f
    rw [if_pos (show r.f1.size ≤ 140737488351232 by omega), h2, Option.bind_some, if_pos rfl, if_pos rfl, Option.bind_some]
    rw [hF] at h3
    rw [if_neg h3]
    by_cases e : r.f0 = a1
    · rw [if_pos e]
    · rw [if_neg e, Option.bind_some]
      have hne : ((findP a1).2.1.data.toList == r.f1.data.toList) = false := by
        rw [beq_eq_false_iff_ne]
        cases hg : svL.find? (fun r => decide (r.f0 = a1)) with
        | none => rw [find_none a1 hg]; exact fun h => h1 h.symm
        | some r' =>
          obtain ⟨hm', rfl⟩ := find_some a1 r' hg
          have hF' : findP r'.f0 = (r'.f0, r'.f1, r'.f2, r'.f3, true) := by unfold findP; rw [hg]
          rw [hF']
          have := of_decide_eq_true (List.all_eq_true.mp (List.all_eq_true.mp rows_apart r hm) r' hm')
          exact this.resolve_left e
      rw [hne, J0]

end Go.Proofs.Ytkkkcpijbkjhdaa.Pure
