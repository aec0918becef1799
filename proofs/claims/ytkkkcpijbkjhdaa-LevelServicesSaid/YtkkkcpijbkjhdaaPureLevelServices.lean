/- LevelServices: every service's number, name, parameters and levels are the document's, and a list that was answered is the caller's. Conditions: the two numbers are numbers of 64 bits, the name no longer than 2^47 - 2^16 bytes (in truth any). -/
import Derived.Test.YtkkkcpijbkjhdaaHPure
namespace Go.Proofs.Ytkkkcpijbkjhdaa.Pure
open Go.RowKit Go.Proofs.Ytkkkcpijbkjhdaa.XA Go.Proofs.YtkkkcpijbkjhdaaW.PrintWords Go.Proofs.YtkkkcpijbkjhdaaW.PrintLast

def svR : List S46 := (tappetref17_Services.f).getD []
theorem svR_f : tappetref17_Services.f = some svR := rfl
theorem svR_len : svR.length = 32 := by decide +kernel
def pR (r : S46) : List UInt8 × Int := (r.f1.data.toList, r.f0)
theorem pairs_R : svPairs 32 = svR.map pR := by decide +kernel
theorem pairs_nodup : ((svPairs 32).map (·.1)).Nodup := by decide +kernel
theorem rd_R (i : Nat) (h : i < svR.length) : rd_T46 svR (i : Int) = svR[i] := by
  unfold rd_T46
  rw [Int.toNat_natCast, List.getD_eq_getElem?_getD, List.getElem?_eq_getElem h]
  rfl
theorem rd_L (i : Nat) (h : i < svL.length) : rd_T56 svL (i : Int) = svL[i] := by
  unfold rd_T56
  rw [Int.toNat_natCast, List.getD_eq_getElem?_getD, List.getElem?_eq_getElem h]
  rfl
theorem next (i : Nat) (h : i < 100) : wrap64 ((i : Int) + 1) = ((i + 1 : Nat) : Int) := by rw [wr_in _ (by omega)]; rfl

theorem services_l0 : ∀ (d i k : Nat) (x : List Int), i + d = svL.length → d < k → x.length = i → level_Services.l0 k x svL (svL.length : Int) (i : Int) = some (x ++ (svL.drop i).map (·.f0))
  | 0, i, k + 1, x, h, _, hx => by
    rw [level_Services.l0, if_neg (by omega), List.drop_eq_nil_of_le (by omega)]
    simp
  | d + 1, i, k + 1, x, h, hk, hx => by
    have hl := svL_len
    have hi : i < svL.length := by omega
    rw [level_Services.l0, if_pos (by omega), if_pos (by omega), if_pos (by omega), if_pos (by omega), rd_L i hi, next i (by omega), services_l0 d (i + 1) k (x ++ [svL[i].f0]) (by omega) (by omega) (by simp [hx]), List.drop_eq_getElem_cons hi, List.map_cons, List.append_assoc]
    rfl
theorem services_f (k : Nat) (hk : 32 < k) : level_Services.f k = some (svL.map (·.f0)) := by
  unfold level_Services.f
  rw [svL_f, Option.bind_some]
  have := services_l0 32 0 k [] svL_len hk rfl
  rw [show ((0 : Nat) : Int) = 0 from rfl, List.drop_zero, List.nil_append] at this
  exact this
theorem number_l0 (x : ByteArray) : ∀ (d i k : Nat), i + d = svR.length → d < k → tappetref17_Number.l0 k x svR (i : Int) = some (match (svR.drop i).find? (fun r => decide (r.f1.data.toList = x.data.toList)) with | some r => (r.f0, true) | none => (0, false))
  | 0, i, k + 1, h, _ => by
    rw [tappetref17_Number.l0, if_neg (by omega), List.drop_eq_nil_of_le (by omega)]
    rfl
  | d + 1, i, k + 1, h, hk => by
    have hl := svR_len
    have hi : i < svR.length := by omega
    rw [tappetref17_Number.l0, if_pos (by omega), if_pos (by omega), rd_R i hi, next i (by omega), number_l0 x d (i + 1) k (by omega) (by omega), List.drop_eq_getElem_cons hi, List.find?_cons, ByteArray.toList_eq, ByteArray.toList_eq]
    by_cases e : svR[i].f1.data.toList = x.data.toList
    · rw [if_pos e]
      simp [e]
    · rw [if_neg e]
      simp [e]
theorem refNumber (k : Nat) (hk : 32 < k) (x : ByteArray) : tappetref17_Number.f k x = some (numberP x) := by
  unfold tappetref17_Number.f
  rw [svR_f, Option.bind_some]
  have := number_l0 x 32 0 k svR_len hk
  rw [show ((0 : Nat) : Int) = 0 from rfl, List.drop_zero] at this
  rw [this]
  unfold numberP lastOf
  rw [last_first _ _ pairs_nodup, pairs_R, List.find?_map]
  rw [show ((fun p : List UInt8 × Int => decide (p.1 = x.data.toList)) ∘ pR) = fun r => decide (r.f1.data.toList = x.data.toList) from rfl]
  cases svR.find? (fun r => decide (r.f1.data.toList = x.data.toList)) <;> rfl
theorem find_no (n : Int) (hn : ∀ r ∈ svR, r.f0 ≠ n) : ∀ (d i k : Nat), i + d = svR.length → d < k → tappetref17_find.l0 k svR n (i : Int) = some (-1)
  | 0, i, k + 1, h, _ => by
    rw [tappetref17_find.l0, if_neg (by omega)]
  | d + 1, i, k + 1, h, hk => by
    have hl := svR_len
    have hi : i < svR.length := by omega
    rw [tappetref17_find.l0, if_pos (by omega), if_pos (by omega), rd_R i hi, if_neg (hn _ (List.getElem_mem hi)), next i (by omega), find_no n hn d (i + 1) k (by omega) (by omega)]
theorem nums : svR.map (·.f0) = svL.map (·.f0) := by decide +kernel
theorem rows_ref : svL.all (fun r => decide ((tappetref17_Name.f 66 r.f0).map (·.data.toList) = some (findP r.f0).2.1.data.toList ∧ tappetref17_Params.f 66 r.f0 = some (findP r.f0).2.2.1 ∧ (tappetref17_find.f 66 svR r.f0).any (fun i => decide (0 ≤ i)) = true)) = true := by
  decide +kernel
theorem rows_may : svL.all (fun r => [1, 2, 3, 4, 5, 6, 7, 8, 9].all fun l => decide (tappetref17_May.f 66 r.f0 l = some (mayP r.f0 l))) = true := by
  decide +kernel
theorem ref_rows (n l : Int) : ∃ t, tappetref17_Name.f 66 n = some t ∧ t.data.toList = (findP n).2.1.data.toList ∧ tappetref17_Params.f 66 n = some (findP n).2.2.1 ∧ tappetref17_May.f 66 n l = some (mayP n l) := by
  cases hf : svL.find? (fun r => decide (r.f0 = n)) with
  | none =>
    have hF : findP n = (0, ⟨#[]⟩, -1, 0, false) := by unfold findP; rw [hf]
    have hn : ∀ r ∈ svR, r.f0 ≠ n := by
      intro r hr e
      have : n ∈ svL.map (·.f0) := by
        rw [← nums]
        exact List.mem_map.mpr ⟨r, hr, e⟩
      obtain ⟨r', hr', e'⟩ := List.mem_map.mp this
      rw [List.find?_eq_none] at hf
      exact hf r' hr' (by simpa using e')
    have hr := find_no n hn 32 0 66 svR_len (by omega)
    rw [show ((0 : Nat) : Int) = 0 from rfl] at hr
    refine ⟨⟨#[]⟩, ?_, by rw [hF], ?_, ?_⟩
    · unfold tappetref17_Name.f tappetref17_find.f
      rw [svR_f, Option.bind_some, hr]
      rfl
    · unfold tappetref17_Params.f tappetref17_find.f
      rw [svR_f, Option.bind_some, hr, hF]
      rfl
    · unfold tappetref17_May.f tappetref17_find.f mayP
      rw [svR_f, Option.bind_some, hr, hF]
      rfl
  | some r =>
    have hm := List.mem_of_find?_eq_some hf
    obtain rfl : r.f0 = n := by simpa using List.find?_some hf
    obtain ⟨h1, h2, h3⟩ := of_decide_eq_true (List.all_eq_true.mp rows_ref r hm)
    obtain ⟨t, ht, he⟩ := Option.map_eq_some_iff.mp h1
    refine ⟨t, ht, he, h2, ?_⟩
    by_cases hl : 1 ≤ l ∧ l ≤ 9
    · have h := List.all_eq_true.mp (List.all_eq_true.mp rows_may r hm) l (by
        rcases (by omega : l = 1 ∨ l = 2 ∨ l = 3 ∨ l = 4 ∨ l = 5 ∨ l = 6 ∨ l = 7 ∨ l = 8 ∨ l = 9) with rfl | rfl | rfl | rfl | rfl | rfl | rfl | rfl | rfl <;> simp)
      exact of_decide_eq_true h
    · obtain ⟨i, hi⟩ : ∃ i, tappetref17_find.f 66 svR r.f0 = some i := by
        cases hh : tappetref17_find.f 66 svR r.f0 with
        | none => rw [hh] at h3; cases h3
        | some i => exact ⟨i, rfl⟩
      rw [hi] at h3
      have hi0 : 0 ≤ i := by simpa using h3
      have hM : mayP r.f0 l = false := by
        unfold mayP
        by_cases c : l ≥ 1
        · have : ¬ l ≤ 9 := by omega
          simp [this]
        · simp [c]
      unfold tappetref17_May.f
      rw [svR_f, Option.bind_some, hi, Option.bind_some, if_neg (by omega), hM]
      by_cases c : l < 1
      · rw [if_pos c, tappetref17_May.j0, if_pos rfl]
      · rw [if_neg c, decide_eq_true (by omega : l > 9), tappetref17_May.j0, if_pos rfl]
theorem j1_services (n l : Int) (x : ByteArray) (hx : x.size ≤ 140737488351232) : tappetlaw17_LevelServices.j1 67 n x l false = some true := by
  obtain ⟨t, h1, h2, h3, h4⟩ := ref_rows n l
  rw [tappetlaw17_LevelServices.j1]
  unfold level_Number.f
  simp only [ByteArray.toList_eq]
  rw [if_neg (by simp), if_pos hx, refNumber 66 (by omega), name_f 66 (by omega), h1, params_f 66 (by omega), h3, may_f 66 (by omega), h4, heads_f 66 (by omega)]
  rw [Option.bind_some, Option.bind_some, if_pos rfl, if_pos (by simp), Option.bind_some, Option.bind_some, if_pos h2.symm]
  simp
theorem got_1 : (List.range 32).all (fun j => decide ((svL.map (·.f0)).getD j 0 = (svR.getD j z46).f0)) = true := by decide +kernel
theorem law_l0 (n l : Int) (x : ByteArray) (hj : tappetlaw17_LevelServices.j1 67 n x l false = some true) : ∀ (d i : Nat) (y : List Int), i + d = 32 → y.length = 32 → (∀ j, i ≤ j → j < 32 → y.getD j 0 = (svR.getD j z46).f0) → tappetlaw17_LevelServices.l0 (d + 68) n x l svR y (i : Int) = some true
  | 0, i, y, h, hy, _ => by
    have hl := svR_len
    have hl2 : (svL.map (·.f0)).length = 32 := by rw [List.length_map, svL_len]
    rw [tappetlaw17_LevelServices.l0, if_neg (by omega), services_f 67 (by omega), Option.bind_some, if_pos (by omega), if_pos (by omega)]
    rw [show (rd (svL.map (·.f0)) 0 != 1) = false by decide +kernel]
    exact hj
  | d + 1, i, y, h, hy, hs => by
    have hl := svR_len
    rw [tappetlaw17_LevelServices.l0, if_pos (by omega), if_pos (by omega), if_pos (by omega), if_pos]
    · rw [next i (by omega), Int.toNat_natCast]
      refine law_l0 n l x hj d (i + 1) _ (by omega) (by simp [hy]) ?_
      intro j h1 h2
      rw [List.getD_eq_getElem?_getD, List.getElem?_set_ne (by omega), ← List.getD_eq_getElem?_getD]
      exact hs j (by omega) h2
    · have := hs i (Nat.le_refl _) (by omega)
      unfold rd rd_T46
      rw [Int.toNat_natCast]
      exact this
theorem LevelServices : tappetlaw17_LevelServices.Pure := by
  intro a0 a1 a2 _ h1 _
  refine ⟨100, ?_⟩
  unfold tappetlaw17_LevelServices.f
  have hl := svR_len
  have hl2 : (svL.map (·.f0)).length = 32 := by rw [List.length_map, svL_len]
  rw [svR_f, Option.bind_some, services_f 100 (by omega), Option.bind_some, if_pos (by omega)]
  have := law_l0 a0 a2 a1 (j1_services a0 a2 a1 h1) 32 0 (svL.map (·.f0)) rfl hl2 (fun j _ h => of_decide_eq_true (List.all_eq_true.mp got_1 j (List.mem_range.mpr h)))
  exact this

end Go.Proofs.Ytkkkcpijbkjhdaa.Pure
