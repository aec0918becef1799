/- level: what the tables tell, in plain Lean: the first and the last of a name, the row of a number. -/
import Derived.Test.YtkkkcpijbkjhdaaXAx5
namespace Go.Proofs.Ytkkkcpijbkjhdaa.Pure
open Go.RowKit Go.Proofs.Ytkkkcpijbkjhdaa.XA Go.Proofs.YtkkkcpijbkjhdaaW.PrintWords Go.Proofs.YtkkkcpijbkjhdaaW.PrintLast

theorem wr_in (n : Int) (h : -9223372036854775808 ≤ n ∧ n ≤ 9223372036854775807) : wrap64 n = n := by unfold wrap64; omega
theorem last_first (key : List UInt8) : ∀ (l : List (List UInt8 × Int)), (l.map (·.1)).Nodup → ∀ r, l.foldl (fun r p => if p.1 = key then some p.2 else r) r = match l.find? (fun p => decide (p.1 = key)) with | some p => some p.2 | none => r
  | [], _, r => rfl
  | p :: l, h, r => by
    rw [List.map_cons, List.nodup_cons] at h
    rw [List.foldl_cons, last_first key l h.2, List.find?_cons]
    by_cases e : p.1 = key
    · have hn : l.find? (fun p => decide (p.1 = key)) = none := by
        rw [List.find?_eq_none]
        intro q hq
        simp only [decide_eq_true_eq]
        intro hk
        exact h.1 (List.mem_map.mpr ⟨q, hq, by rw [hk, e]⟩)
      rw [hn]
      simp [e]
    · simp [e]

/-! ### the statuses -/
theorem status_eq (a : Int) : tappetref17_Status.f a = some (statusP a) := by
  unfold tappetref17_Status.f statusP
  simp only [apply_ite some]
theorem stPair_data (s : Nat) : stPair s = if (statusP s).data.toList = [] then [] else [((statusP s).data.toList, (s : Int))] := by
  unfold stPair
  rw [ByteArray.toList_eq]
theorem stL_data (j : Nat) : stL j = (List.range j).flatMap fun s => if (statusP (s : Nat)).data.toList = [] then [] else [((statusP (s : Nat)).data.toList, (s : Int))] := by
  unfold stL
  congr 1
  funext s
  exact stPair_data s
theorem stL_40 : stL 37 = (List.range' 0 40).flatMap stPair := by
  have : stPair = fun s : Nat => if (statusP (s : Nat)).data.toList = [] then [] else [((statusP (s : Nat)).data.toList, (s : Int))] := by
    funext s
    exact stPair_data s
  rw [stL_data, this]
  decide +kernel
theorem stL_nodup : ((stL 37).map (·.1)).Nodup := by
  rw [stL_data]
  decide +kernel
theorem refst (x : ByteArray) : ∀ (d i k : Nat), i + d = 40 → d < k → tappetref17_StatusOf.l0 k x (i : Int) = some (match ((List.range' i d).flatMap stPair).find? (fun p => decide (p.1 = x.data.toList)) with | some p => (p.2, true) | none => (0, false))
  | 0, i, k + 1, h, _ => by
    rw [tappetref17_StatusOf.l0, if_neg (by omega)]
    rfl
  | d + 1, i, k + 1, h, hk => by
    rw [tappetref17_StatusOf.l0, if_pos (by omega), status_eq]
    have hw : wrap64 ((i : Int) + 1) = ((i + 1 : Nat) : Int) := by rw [wr_in _ (by omega)]; rfl
    have ih := refst x d (i + 1) k (by omega) (by omega)
    rw [← hw] at ih
    rw [List.range'_succ, List.flatMap_cons, List.find?_append, stPair_data, Option.bind_some, ByteArray.toList_eq, ByteArray.toList_eq]
    by_cases e : (statusP (i : Nat)).data.toList = []
    · rw [if_pos e, if_pos e, ih]
      rfl
    · rw [if_neg e, if_neg e]
      by_cases e2 : (statusP (i : Nat)).data.toList = x.data.toList
      · rw [if_pos e2]
        simp [e2]
      · rw [if_neg e2, ih]
        simp [e2]
theorem refStatusOf (x : ByteArray) (k : Nat) (hk : 40 < k) : tappetref17_StatusOf.f k x = some (statusOfP x) := by
  unfold tappetref17_StatusOf.f
  have := refst x 40 0 k rfl hk
  rw [show ((0 : Nat) : Int) = 0 from rfl] at this
  rw [this, ← stL_40]
  unfold statusOfP lastOf
  rw [last_first _ _ stL_nodup]
  cases (stL 37).find? (fun p => decide (p.1 = x.data.toList)) <;> rfl

/-! ### contexts, states -/
theorem of_eq (a b : Int) : ∃ v, level_Of.f a b = some v ∧ tappetref17_Of.f a b = some v := by
  unfold level_Of.f tappetref17_Of.f
  by_cases h1 : a = 1
  · subst h1; exact ⟨1, rfl, rfl⟩
  by_cases h2 : a = 2
  · subst h2
    by_cases c1 : b = 1
    · subst c1; exact ⟨2, rfl, by decide +kernel⟩
    by_cases c2 : b = 2
    · subst c2; exact ⟨3, rfl, by decide +kernel⟩
    exact ⟨0, by simp [c1, c2], by simp [c1, c2]⟩
  by_cases h3 : a = 3
  · subst h3; exact ⟨7, rfl, rfl⟩
  by_cases h4 : a = 4
  · subst h4; exact ⟨4, rfl, rfl⟩
  by_cases h5 : a = 5
  · subst h5; exact ⟨8, rfl, rfl⟩
  by_cases h6 : a = 6
  · subst h6; exact ⟨5, rfl, rfl⟩
  by_cases h7 : a = 7
  · subst h7; exact ⟨6, rfl, rfl⟩
  by_cases h8 : a = 8
  · subst h8; exact ⟨9, rfl, rfl⟩
  exact ⟨0, by simp [h1, h2, h3, h4, h5, h6, h7, h8], by simp [h1, h2, h3, h4, h5, h6, h7, h8]⟩
theorem frame_eq (a : Int) : tappetref17_Frame.f a = some (frameP a) := by
  rcases (by omega : a < 1 ∨ a = 1 ∨ a = 2 ∨ a = 3 ∨ a = 4 ∨ a = 5 ∨ a = 6 ∨ a = 7 ∨ a = 8 ∨ 9 ≤ a) with h | rfl | rfl | rfl | rfl | rfl | rfl | rfl | rfl | h
  · unfold tappetref17_Frame.f frameP
    rw [Option.bind_some, if_pos h]
    by_cases e : a = 0
    · rw [if_pos e]
    · rw [if_neg e, if_neg (by omega), if_neg (by omega), if_neg (by omega), if_neg (by omega), if_neg (by omega), if_neg (by omega), if_neg (by omega), if_neg (by omega)]
  · rfl
  · rfl
  · rfl
  · rfl
  · rfl
  · rfl
  · rfl
  · rfl
  · unfold tappetref17_Frame.f frameP
    rw [Option.bind_some, if_neg (by omega), if_pos (by simp only [List.length_cons, List.length_nil]; omega), if_neg (by omega), if_neg (by omega), if_neg (by omega), if_neg (by omega), if_neg (by omega), if_neg (by omega), if_neg (by omega), if_neg (by omega), if_neg (by omega)]
theorem state_eq (a : Int) : tappetref17_State.f a = some (stateP a) := by
  rcases (by omega : a < 0 ∨ a = 0 ∨ a = 1 ∨ a = 2 ∨ a = 3 ∨ 4 ≤ a) with h | rfl | rfl | rfl | rfl | h
  · unfold tappetref17_State.f stateP
    rw [Option.bind_some, if_pos h, if_neg (by omega), if_neg (by omega), if_neg (by omega), if_neg (by omega)]
  · rfl
  · rfl
  · rfl
  · rfl
  · unfold tappetref17_State.f stateP
    rw [Option.bind_some, if_neg (by omega), if_pos (by simp only [List.length_cons, List.length_nil]; omega), if_neg (by omega), if_neg (by omega), if_neg (by omega), if_neg (by omega)]

/-! ### the row of a number -/
def findP (n : Int) : Int × ByteArray × Int × Int × Bool := match svL.find? (fun r => decide (r.f0 = n)) with | some r => (r.f0, r.f1, r.f2, r.f3, true) | none => (0, ⟨#[]⟩, -1, 0, false)
theorem find_l0 (n : Int) : ∀ (d i k : Nat), i + d = svL.length → d < k → level_find.l0 k n svL (svL.length : Int) (i : Int) = some (match (svL.drop i).find? (fun r => decide (r.f0 = n)) with | some r => (r.f0, r.f1, r.f2, r.f3, true) | none => (0, ⟨#[]⟩, -1, 0, false))
  | 0, i, k + 1, h, _ => by
    rw [level_find.l0, if_neg (by omega), List.drop_eq_nil_of_le (by omega)]
    rfl
  | d + 1, i, k + 1, h, hk => by
    have hl := svL_len
    have hi : i < svL.length := by omega
    have hw : wrap64 ((i : Int) + 1) = ((i + 1 : Nat) : Int) := by rw [wr_in _ (by omega)]; rfl
    have ih := find_l0 n d (i + 1) k (by omega) (by omega)
    have hrd : rd_T56 svL (i : Int) = svL[i] := by
      unfold rd_T56
      rw [Int.toNat_natCast, List.getD_eq_getElem?_getD, List.getElem?_eq_getElem hi]
      rfl
    rw [level_find.l0, if_pos (by omega), if_pos (by omega), if_pos (by omega), hrd, hw, ih, List.drop_eq_getElem_cons hi, List.find?_cons]
    by_cases e : svL[i].f0 = n
    · rw [if_pos e]
      simp [e]
    · rw [if_neg e]
      simp [e]
theorem find_f (k : Nat) (hk : 32 < k) (n : Int) : level_find.f k n = some (findP n) := by
  unfold level_find.f
  rw [svL_f, Option.bind_some]
  have := find_l0 n 32 0 k svL_len hk
  rw [show ((0 : Nat) : Int) = 0 from rfl, List.drop_zero] at this
  exact this
theorem name_f (k : Nat) (hk : 32 < k) (n : Int) : level_Name.f k n = some (findP n).2.1 := by
  unfold level_Name.f
  rw [find_f k hk, Option.bind_some]
theorem params_f (k : Nat) (hk : 32 < k) (n : Int) : level_Params.f k n = some (findP n).2.2.1 := by
  unfold level_Params.f
  rw [find_f k hk, Option.bind_some]
def mayP (n l : Int) : Bool := (findP n).2.2.2.2 && decide (l ≥ 1) && decide (l ≤ 9) && (Go.bits .and .i64 (shr .i64 (findP n).2.2.2.1 (wrap64 (l - 1))) 1 == 1)
theorem may_f (k : Nat) (hk : 32 < k) (n l : Int) : level_May.f k n l = some (mayP n l) := by
  unfold level_May.f mayP
  rw [find_f k hk, Option.bind_some]
  by_cases h1 : (findP n).2.2.2.2 = true
  · rw [if_pos h1, h1]
    by_cases h2 : l ≥ 1
    · rw [if_pos h2]
      by_cases h3 : l ≤ 9
      · rw [if_pos h3, if_pos (by rw [wr_in _ (by omega)]; omega)]
        simp [h2, h3]
      · rw [if_neg h3]
        simp [h2, h3]
    · rw [if_neg h2]
      simp [h2]
  · rw [if_neg h1]
    simp [h1]
theorem heads_f (k : Nat) (hk : 32 < k) : tappetlaw17_heads.f k = some true := by
  unfold tappetlaw17_heads.f
  simp only [name_f k hk, params_f k hk, may_f k hk, ByteArray.toList_eq]
  unfold level_Number.f level_StatusOf.f level_Of.f level_Frame.f level_State.f numberP statusOfP
  rw [stL_data]
  decide +kernel

end Go.Proofs.Ytkkkcpijbkjhdaa.Pure
