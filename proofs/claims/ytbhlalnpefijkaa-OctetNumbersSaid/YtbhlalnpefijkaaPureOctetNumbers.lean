/- OctetNumbers: octet.Digits and octet.Decimal answer as the document's, and Digits reads what Decimal writes; for every number, every text and every bound. No condition beside the kinds of the parameters. -/
import Derived.Test.YtbhlalnpefijkaaXAx2
import Derived.OpenShut
namespace Go.Proofs.Ytbhlalnpefijkaa.Pure
open Go.RowKit Go.Proofs.Ytbhlalnpefijkaa.XA Go.Proofs.YtbhlalnpefijkaaW.PrintWords Go.Proofs.YtbhlalnpefijkaaW.PrintLast

/-! ### decimal digits -/
/-- a digit's byte -/
def dig (n : Nat) : UInt8 := UInt8.ofNat (48 + n)
/-- the digits of a number, as bytes -/
def decB : Nat → Nat → List UInt8
  | 0, _ => []
  | d + 1, n => if n < 10 then [dig n] else decB d (n / 10) ++ [dig (n % 10)]

theorem dig_toNat (n : Nat) (h : n < 10) : (dig n).toNat = 48 + n := by
  unfold dig
  rw [UInt8.toNat_ofNat']
  omega
theorem dig_int (n : Nat) : UInt8.ofNat (48 + (n : Int)).toNat = dig n := by
  unfold dig
  congr 1
theorem decB_eq (d n : Nat) : (decI d n).map (fun x => UInt8.ofNat x.toNat) = decB d n := by
  induction d generalizing n with
  | zero => rfl
  | succ d ih =>
    unfold decI decB
    split
    · rw [List.map_cons, List.map_nil, dig_int]
    · rw [List.map_append, ih, List.map_cons, List.map_nil, dig_int]
theorem decimalP_list (v : Int) : (decimalP v).toList = decB 20 v.toNat := by
  rw [toList_eq, decimalP, strOfNums_data, decB_eq]

theorem decB_length (d n : Nat) : (decB d n).length ≤ d := by
  induction d generalizing n with
  | zero => simp [decB]
  | succ d ih =>
    unfold decB
    split
    · simp
    · have := ih (n / 10)
      simp; omega
theorem decB_ne (d n : Nat) : decB (d + 1) n ≠ [] := by
  unfold decB
  split <;> simp
theorem decB_head (d n : Nat) (h : n < 10 ^ (d + 1)) (h1 : 1 ≤ n) : (decB (d + 1) n).headD 0 ≠ 48 := by
  induction d generalizing n with
  | zero =>
    have : n < 10 := by simpa using h
    unfold decB
    rw [if_pos this]
    intro e
    have := dig_toNat n (by omega)
    simp only [List.headD_cons] at e
    rw [e] at this
    have h48 : (48 : UInt8).toNat = 48 := rfl
    omega
  | succ d ih =>
    unfold decB
    split
    · rename_i h10
      intro e
      have := dig_toNat n (by omega)
      simp only [List.headD_cons] at e
      rw [e] at this
      have h48 : (48 : UInt8).toNat = 48 := rfl
      omega
    · rename_i h10
      have := ih (n / 10) (by rw [Nat.pow_succ] at h; omega) (by omega)
      rcases hh : decB (d + 1) (n / 10) with _ | ⟨x, l⟩
      · exact absurd hh (decB_ne _ _)
      · rw [hh] at this
        simpa using this

/-! ### the fold over digits -/
theorem fold_append (a b : List UInt8) (v : Int) : digFold (a ++ b) v = (digFold a v).bind fun x => digFold b x := by
  induction a generalizing v with
  | nil => rfl
  | cons c a ih =>
    simp only [List.cons_append, digFold]
    cases digNext v c with
    | none => rfl
    | some x => exact ih x
theorem fold_dec (d n : Nat) (h : n < 10 ^ d) (hd : 1 ≤ d) (hm : n ≤ 18446744073709551615) : digFold (decB d n) 0 = some (n : Int) := by
  induction d generalizing n with
  | zero => omega
  | succ d ih =>
    unfold decB
    split
    · rename_i h10
      simp only [digFold, digNext]
      rw [dig_toNat n h10, if_neg (by omega), if_neg (by omega)]
      simp
      omega
    · rename_i h10
      have hd' : 1 ≤ d := by
        rcases d with _ | d
        · simp at h; omega
        · omega
      rw [fold_append, ih (n / 10) (by rw [Nat.pow_succ] at h; omega) hd' (by omega)]
      simp only [Option.bind_some, digFold, digNext]
      rw [dig_toNat (n % 10) (by omega), if_neg (by omega), if_neg (by omega)]
      simp
      omega
theorem next_bounds (v x : Int) (c : UInt8) (h : digNext v c = some x) (v0 : 0 ≤ v) : 48 ≤ c.toNat ∧ c.toNat ≤ 57 ∧ x = v * 10 + ((c.toNat : Int) - 48) ∧ 0 ≤ x ∧ x ≤ 18446744073709551615 := by
  unfold digNext at h
  split at h
  · cases h
  · split at h
    · cases h
    · cases h
      refine ⟨by omega, by omega, rfl, by omega, by omega⟩
theorem fold_bounds (l : List UInt8) (v x : Int) (h : digFold l v = some x) (v0 : 0 ≤ v) (v1 : v ≤ 18446744073709551615) : 0 ≤ x ∧ x ≤ 18446744073709551615 := by
  induction l generalizing v with
  | nil =>
    simp only [digFold, Option.some.injEq] at h
    omega
  | cons c l ih =>
    simp only [digFold] at h
    cases hn : digNext v c with
    | none => rw [hn] at h; cases h
    | some y =>
      rw [hn] at h
      have := next_bounds v y c hn v0
      exact ih y h this.2.2.2.1 this.2.2.2.2
theorem dig_of (c : UInt8) (h1 : 48 ≤ c.toNat) (h2 : c.toNat ≤ 57) (n : Nat) (h : (n : Int) = (c.toNat : Int) - 48) : dig n = c := by
  apply UInt8.toNat_inj.1
  rw [dig_toNat n (by omega)]
  omega
/-- a row of digits without a zero ahead is what Decimal writes -/
theorem fold_canon (m : Nat) : ∀ (l : List UInt8) (d : Nat) (v : Nat), l.length = m + 1 → (l.headD 0 = 48 → l.length = 1) → digFold l 0 = some (v : Int) → v < 10 ^ (d + 1) → decB (d + 1) v = l := by
  induction m with
  | zero =>
    intro l d v hl hh hf hv
    obtain ⟨c, rfl⟩ : ∃ c, l = [c] := by
      match l, hl with
      | [c], _ => exact ⟨c, rfl⟩
    simp only [digFold] at hf
    cases hn : digNext 0 c with
    | none => rw [hn] at hf; cases hf
    | some y =>
      rw [hn] at hf
      obtain ⟨h1, h2, h3, h4, h5⟩ := next_bounds 0 y c hn (by omega)
      have : y = (v : Int) := Option.some.inj hf
      unfold decB
      rw [if_pos (by omega), dig_of c h1 h2 v (by omega)]
  | succ m ih =>
    intro l d v hl hh hf hv
    obtain ⟨l', c, rfl⟩ : ∃ l' c, l = l' ++ [c] := by
      rcases List.eq_nil_or_concat l with h | ⟨l', c, h⟩
      · subst h; simp at hl
      · exact ⟨l', c, by simpa using h⟩
    have hl' : l'.length = m + 1 := by simpa using hl
    rw [fold_append] at hf
    cases hf' : digFold l' 0 with
    | none => rw [hf'] at hf; cases hf
    | some v' =>
      rw [hf'] at hf
      simp only [Option.bind_some, digFold] at hf
      have hb := fold_bounds l' 0 v' hf' (by omega) (by omega)
      obtain ⟨n', rfl⟩ := Int.eq_ofNat_of_zero_le hb.1
      cases hn : digNext (n' : Int) c with
      | none => rw [hn] at hf; cases hf
      | some y =>
        rw [hn] at hf
        obtain ⟨h1, h2, h3, h4, h5⟩ := next_bounds _ y c hn (by omega)
        have hy : y = (v : Int) := Option.some.inj hf
        have hhead : l'.headD 0 ≠ 48 := by
          intro e
          have h3 := hh (by
            rcases l' with _ | ⟨a, l'⟩
            · simp at hl'
            · simpa using e)
          simp at h3
          simp [h3] at hl'
        have hn1 : 1 ≤ n' := by
          rcases Nat.eq_zero_or_pos n' with e | e
          · subst e
            have := ih l' 0 0 hl' (fun e => absurd e hhead) hf' (by omega)
            rw [← this] at hhead
            exact absurd rfl hhead
          · exact e
        have hd : ∃ d', d = d' + 1 := by
          rcases d with _ | d
          · simp at hv; omega
          · exact ⟨d, rfl⟩
        obtain ⟨d', rfl⟩ := hd
        have hdiv : v / 10 = n' := by omega
        have hmod : ((v % 10 : Nat) : Int) = (c.toNat : Int) - 48 := by omega
        unfold decB
        rw [if_neg (by omega), dig_of c h1 h2 _ hmod, hdiv, ih l' d' n' hl' (fun e => absurd e hhead) hf' (by rw [Nat.pow_succ] at hv; omega)]

/-! ### octet.Digits -/
theorem digits_dec (n : Nat) (hn : n ≤ 18446744073709551615) : digitsP (decimalP (n : Int)) 18446744073709551615 = ((n : Int), 0) := by
  have hl : (decimalP (n : Int)).toList = decB 20 n := decimalP_list n
  have hs : (decimalP (n : Int)).size = (decB 20 n).length := by
    rw [← hl, toList_eq]; simp
  have h20 := decB_length 20 n
  have hne := decB_ne 19 n
  unfold digitsP
  rw [if_neg, hl, fold_dec 20 n (by omega) (by omega) hn]
  · simp only
    rw [if_neg (by omega)]
  · rw [hs, hl]
    rintro (h | h | ⟨h, h'⟩)
    · exact hne (List.eq_nil_of_length_eq_zero h)
    · omega
    · rcases Nat.eq_zero_or_pos n with e | e
      · subst e; exact absurd h' (by decide)
      · exact decB_head 19 n (by omega) e h
/-- what the document's Digits answers -/
def refDigits (l : List UInt8) (most : Int) : Int × Int :=
  match digFold l 0 with
  | none => (0, 13)
  | some v => if l = [] then (0, 13) else if decB 20 v.toNat = l then (if most < v then (0, 13) else (v, 0)) else (0, 13)
theorem digits_ref (s : ByteArray) (most : Int) : digitsP s most = refDigits s.toList most := by
  have hs : s.size = s.toList.length := by rw [toList_eq]; simp
  unfold digitsP refDigits
  cases hf : digFold s.toList 0 with
  | none =>
    simp only
    split <;> rfl
  | some v =>
    simp only
    have hb := fold_bounds _ _ v hf (by omega) (by omega)
    obtain ⟨n, rfl⟩ := Int.eq_ofNat_of_zero_le hb.1
    rw [hs, Int.toNat_natCast]
    by_cases h0 : s.toList = []
    · rw [if_pos h0, if_pos (.inl (by rw [h0]; rfl))]
    rw [if_neg h0]
    by_cases hd : decB 20 n = s.toList
    · rw [if_pos hd, if_neg]
      rintro (h | h | ⟨h, h'⟩)
      · exact h0 (List.eq_nil_of_length_eq_zero h)
      · rw [← hd] at h
        have := decB_length 20 n
        omega
      · rw [← hd] at h h'
        rcases Nat.eq_zero_or_pos n with e | e
        · subst e; exact absurd h' (by decide)
        · exact decB_head 19 n (by omega) e h
    · rw [if_neg hd, if_pos]
      by_cases hlen : 20 < s.toList.length
      · exact .inr (.inl hlen)
      · refine .inr (.inr ?_)
        by_cases hc : s.toList.headD 0 = 48 ∧ 1 < s.toList.length
        · exact hc
        · exfalso
          apply hd
          have hpos : s.toList.length ≠ 0 := fun e => h0 (List.eq_nil_of_length_eq_zero e)
          refine fold_canon (s.toList.length - 1) s.toList 19 n (by omega) (fun e => ?_) hf (by omega)
          by_cases h1 : 1 < s.toList.length
          · exact absurd ⟨e, h1⟩ hc
          · omega

/-! ### the document's functions, as they were read off the code -/
theorem ref_dec (k : Nat) : ∀ (d n : Nat) (s : ByteArray), n < 10 ^ d → 1 ≤ d → d ≤ k → d + s.size ≤ 100 → n ≤ 18446744073709551615 → tappetref01_Decimal.l0 k n s = some (strOfNums (decI d n) ++ s) := by
  induction k with
  | zero => intro d n s _ h1 h2; omega
  | succ k ih =>
    intro d n s hn h1 h2 h3 h4
    obtain ⟨d, rfl⟩ : ∃ e, d = e + 1 := ⟨d - 1, by omega⟩
    have e1 : (48 + ((Int.tmod (n : Int) 10) % 256)) % 256 = 48 + ((n % 10 : Nat) : Int) := by
      rw [Int.tmod_eq_emod_of_nonneg (by omega)]; omega
    have e2 : IntKind.u64.wrap (Int.tdiv (n : Int) 10) = ((n / 10 : Nat) : Int) := by
      rw [IntKind.wrap_u64, Int.tdiv_eq_ediv_of_nonneg (by omega)]; omega
    simp only [tappetref01_Decimal.l0, Option.bind_some]
    rw [e1, e2, if_pos (by rw [strOfNums_size]; simp; omega)]
    unfold decI
    by_cases h10 : n < 10
    · rw [if_pos (by omega), if_pos h10, Nat.mod_eq_of_lt h10]
    · have hd' : 1 ≤ d := by
        rcases d with _ | d
        · simp at hn; omega
        · omega
      rw [if_neg (by omega), if_neg h10]
      rw [ih d (n / 10) _ (by rw [Nat.pow_succ] at hn; omega) hd' (by omega) (by rw [ByteArray.size_append, strOfNums_size]; simp; omega) (by omega)]
      congr 1
      rw [← ByteArray.append_assoc]
      congr 1
      apply ByteArray.ext
      apply Array.ext'
      simp [strOfNums]
theorem bt_eq (s : ByteArray) (i : Nat) (h : i < s.size) : bt s (i : Int) = (s[i].toNat : Int) := by
  unfold bt
  rw [dif_pos (by simpa using h)]
  simp
theorem drop_at' (s : ByteArray) (pos : Nat) (h : pos < s.size) : s.toList.drop pos = s[pos] :: s.toList.drop (pos + 1) := drop_at s pos h
theorem ref_dig (s : ByteArray) (m : Int) (hs : s.size ≤ 140737488351232) (j : Nat) : ∀ (k i n : Nat), i + j = s.size → 2 * j + 22 ≤ k → n ≤ 18446744073709551615 →
    tappetref01_Digits.l0 k s m n i = some (match digFold (s.toList.drop i) n with
      | none => (0, 13)
      | some v => if s.toList = [] then (0, 13) else if decB 20 v.toNat = s.toList then (if m < v then (0, 13) else (v, 0)) else (0, 13)) := by
  induction j with
  | zero =>
    intro k i n hi hk hn
    obtain ⟨k, rfl⟩ : ∃ e, k = e + 1 := ⟨k - 1, by omega⟩
    have hd : s.toList.drop i = [] := List.drop_of_length_le (by rw [toList_eq]; simp; omega)
    rw [hd]
    simp only [digFold, tappetref01_Digits.l0]
    rw [if_neg (by omega)]
    by_cases h0 : s.toList = []
    · rw [if_pos h0, if_pos h0]
    · rw [if_neg h0, if_neg h0]
      unfold tappetref01_Decimal.f
      rw [ref_dec k 20 n _ (by omega) (by omega) (by omega) (by decide) hn]
      simp only [Option.bind_some]
      have e1 : (strOfNums (decI 20 n) ++ (⟨#[]⟩ : ByteArray)).toList = decB 20 n := by
        have e2 : strOfNums (decI 20 n) ++ (⟨#[]⟩ : ByteArray) = strOfNums (decI 20 n) := ByteArray.append_empty
        rw [e2, toList_eq, strOfNums_data, decB_eq]
      rw [e1, Int.toNat_natCast]
      by_cases h1 : decB 20 n = s.toList
      · rw [if_pos h1, if_pos h1]
        by_cases h2 : m < (n : Int)
        · rw [if_pos h2, if_pos (by omega)]
        · rw [if_neg h2, if_neg (by omega)]
      · rw [if_neg h1, if_neg h1]
  | succ j ih =>
    intro k i n hi hk hn
    obtain ⟨k, rfl⟩ : ∃ e, k = e + 2 := ⟨k - 2, by omega⟩
    have hlt : i < s.size := by omega
    have hc : s[i].toNat < 256 := s[i].toNat_lt
    rw [drop_at' s i hlt]
    simp only [digFold, tappetref01_Digits.l0, tappetref01_Digits.j1]
    rw [if_pos (by omega), if_pos (by omega), bt_eq s i hlt]
    by_cases h1 : s[i].toNat < 48
    · rw [if_pos (by omega)]
      have : digNext n s[i] = none := by unfold digNext; rw [if_pos (.inl h1)]
      rw [this]
      simp
    · rw [if_neg (by omega)]
      by_cases h2 : 57 < s[i].toNat
      · have : digNext n s[i] = none := by unfold digNext; rw [if_pos (.inr h2)]
        rw [this, if_pos (decide_eq_true (by omega))]
      · rw [if_neg (by rw [decide_eq_true_iff]; omega), if_pos (by omega), if_pos (by omega)]
        have e1 : ((s[i].toNat : Int) - 48) % 256 = (s[i].toNat : Int) - 48 := by omega
        rw [e1]
        by_cases h3 : (18446744073709551615 - ((s[i].toNat : Int) - 48)) / 10 < (n : Int)
        · have : digNext n s[i] = none := by unfold digNext; rw [if_neg (by omega), if_pos h3]
          rw [this, if_pos h3]
        · have : digNext n s[i] = some (((n * 10 + (s[i].toNat - 48) : Nat)) : Int) := by
            unfold digNext; rw [if_neg (by omega), if_neg h3]; congr 1; omega
          rw [this, if_neg h3]
          have e2 : IntKind.u64.wrap (IntKind.u64.wrap ((n : Int) * 10) + ((s[i].toNat : Int) - 48)) = ((n * 10 + (s[i].toNat - 48) : Nat) : Int) := by
            rw [IntKind.wrap_u64, IntKind.wrap_u64]; omega
          have e3 : wrap64 ((i : Int) + 1) = ((i + 1 : Nat) : Int) := by unfold wrap64; omega
          rw [e2, e3]
          exact ih k (i + 1) _ (by omega) (by omega) (by omega)
theorem OctetNumbers : tappetlaw01_OctetNumbers.Pure := by
  intro v s most hv hs hm
  have hv := bounds_u64 hv
  obtain ⟨n, rfl⟩ := Int.eq_ofNat_of_zero_le hv.1
  have hk : ∃ k, 2 * s.size + 30 ≤ k := ⟨_, Nat.le_refl _⟩
  obtain ⟨k, hk⟩ := hk
  refine ⟨k, ?_⟩
  have r1 : tappetref01_Digits.f k s most = some (refDigits s.toList most) := by
    unfold tappetref01_Digits.f refDigits
    exact ref_dig s most hs s.size k 0 0 (by omega) (by omega) (by omega)
  have r2 : octet_Decimal.f (n : Int) = some (decimalP (n : Int)) := by
    unfold octet_Decimal.f
    rw [if_pos (by omega), if_pos (by omega)]
  have r3 : tappetref01_Decimal.f k (n : Int) = some (decimalP (n : Int)) := by
    unfold tappetref01_Decimal.f
    rw [ref_dec k 20 n _ (by omega) (by omega) (by omega) (by decide) (by omega)]
    congr 1
    exact ByteArray.append_empty
  have r4 : octet_Digits.f (decimalP (n : Int)) 18446744073709551615 = some ((n : Int), 0) := by
    unfold octet_Digits.f
    rw [digits_dec n (by omega)]
  have r5 : octet_Digits.f s most = some (refDigits s.toList most) := by
    unfold octet_Digits.f
    rw [digits_ref]
  unfold tappetlaw01_OctetNumbers.f
  rw [r5, r1, r2]
  simp only [Option.bind_some]
  rw [r4]
  simp only [Option.bind_some]
  simp only [if_true, r3, Option.bind_some]
  rfl

end Go.Proofs.Ytbhlalnpefijkaa.Pure
