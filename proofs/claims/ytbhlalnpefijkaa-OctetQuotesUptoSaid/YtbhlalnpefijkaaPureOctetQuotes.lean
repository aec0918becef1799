/- OctetQuotes, for texts of at most 1048576 bytes (that is all that the second form speaks of): octet.Quote and octet.Unquote answer as the document's, Unquote reads what Quote writes, and what it takes is what Quote writes. -/
import Derived.Test.YtbhlalnpefijkaaXBx5
import Derived.Lib.Strings
namespace Go.Proofs.Ytbhlalnpefijkaa.Pure
open Go.RowKit Go.Proofs.Ytbhlalnpefijkaa.XB Go.Proofs.YtbhlalnpefijkaaW.PrintWords Go.Proofs.YtbhlalnpefijkaaW.PrintLast

/-! ### what is quoted is read again -/
theorem hx_toNat (n : Nat) (h : n < 16) : (hx n).toNat = if n < 10 then 48 + n else 87 + n := by
  have : ∀ v : Fin 16, (hx v.val).toNat = if v.val < 10 then 48 + v.val else 87 + v.val := by decide +kernel
  exact this ⟨n, h⟩
theorem nib_hx (n : Nat) (h : n < 16) : nibV (hx n).toNat = n := by
  have : ∀ v : Fin 16, nibV (hx v.val).toNat = v.val := by decide +kernel
  exact this ⟨n, h⟩
theorem qc_cases (c : UInt8) : ((c.toNat = 34 ∨ c.toNat = 92) ∧ qc c = [92, c]) ∨ ((c.toNat ≠ 92 ∧ c.toNat ≠ 34) ∧ (32 ≤ c.toNat ∧ c.toNat ≤ 126) ∧ qc c = [c]) ∨ qc c = [92, 120, hx (c.toNat / 16), hx (c.toNat % 16)] := by
  unfold qc
  by_cases h : c.toNat = 34 ∨ c.toNat = 92
  · exact .inl ⟨h, if_pos h⟩
  · by_cases h2 : 32 ≤ c.toNat ∧ c.toNat ≤ 126
    · exact .inr (.inl ⟨by omega, h2, by rw [if_neg h, if_pos h2]⟩)
    · exact .inr (.inr (by rw [if_neg h, if_neg h2]))
theorem b92 : ¬ (92 : UInt8).toNat ≠ 92 := by decide
theorem b120 : ¬ (120 : UInt8).toNat ≠ 120 := by decide
theorem unq_quoted (l : List UInt8) : unq (l.flatMap qc) = some (ints l) := by
  induction l with
  | nil => rfl
  | cons c l ih =>
    have hc := c.toNat_lt
    rw [List.flatMap_cons]
    rcases qc_cases c with ⟨h, e⟩ | ⟨h, _, e⟩ | e
    · have h2 : c.toNat ≠ 120 := by omega
      rw [e]
      simp only [List.cons_append, List.nil_append]
      rw [unq.eq_def]
      simp only [b92, if_false]
      rw [if_pos h2, ih]
      rfl
    · rw [e]
      simp only [List.cons_append, List.nil_append]
      rw [unq.eq_def]
      simp only
      rw [if_pos h.1, ih]
      rfl
    · rw [e]
      simp only [List.cons_append, List.nil_append]
      rw [unq.eq_def]
      simp only [b92, b120, if_false]
      rw [nib_hx _ (by omega), nib_hx _ (by omega), ih]
      simp only [Option.map_some, ints, List.map_cons, Option.some.injEq, List.cons.injEq, and_true]
      omega

/-! ### the document's reading -/
def nib2 (c : Nat) : Nat := if 48 ≤ c ∧ c ≤ 57 then c - 48 else if 97 ≤ c ∧ c ≤ 102 then c - 87 else 16
def unq2 : List UInt8 → List Int
  | [] => []
  | c :: l =>
    if c.toNat ≠ 92 then (c.toNat : Int) :: unq2 l else
    match l with
    | [] => []
    | d :: l' =>
      if d.toNat ≠ 120 then (d.toNat : Int) :: unq2 l' else
      match l' with
      | [] => []
      | [a] => unq2 [a]
      | a :: b :: l'' => ((((nib2 a.toNat : Nat) : Int) * 16) % 256 + ((nib2 b.toNat : Nat) : Int)) % 256 :: unq2 l''
theorem nib2_hx (n : Nat) (h : n < 16) : nib2 (hx n).toNat = n := by
  have : ∀ v : Fin 16, nib2 (hx v.val).toNat = v.val := by decide +kernel
  exact this ⟨n, h⟩
theorem unq2_quoted (l : List UInt8) : unq2 (l.flatMap qc) = ints l := by
  induction l with
  | nil => simp [unq2, ints]
  | cons c l ih =>
    have hc := c.toNat_lt
    rw [List.flatMap_cons]
    rcases qc_cases c with ⟨h, e⟩ | ⟨h, _, e⟩ | e
    · have h2 : c.toNat ≠ 120 := by omega
      rw [e]
      simp only [List.cons_append, List.nil_append]
      rw [unq2.eq_def]
      simp only [b92, if_false]
      rw [if_pos h2, ih]
      rfl
    · rw [e]
      simp only [List.cons_append, List.nil_append]
      rw [unq2.eq_def]
      simp only
      rw [if_pos h.1, ih]
      rfl
    · rw [e]
      simp only [List.cons_append, List.nil_append]
      rw [unq2.eq_def]
      simp only [b92, b120, if_false]
      rw [nib2_hx _ (by omega), nib2_hx _ (by omega), ih]
      simp only [ints, List.map_cons, List.cons.injEq, and_true]
      omega

theorem nib_doc (c : UInt8) (k : Nat) (hk : 18 ≤ k) : tappetref01_nibble.f k (c.toNat : Int) = some ((nib2 c.toNat : Nat) : Int) := by
  have h18 : ∀ v : Fin 256, tappetref01_nibble.f 18 ((v.val : Nat) : Int) = some ((nib2 v.val : Nat) : Int) := by decide +kernel
  have h := h18 ⟨c.toNat, c.toNat_lt⟩
  induction k with
  | zero => omega
  | succ k ih =>
    rcases Nat.lt_or_ge k 18 with h1 | h1
    · obtain rfl : k = 17 := by omega
      exact h
    · exact tappetref01_nibble.mono _ k _ (ih h1)

/-! ### the document's quoting -/
theorem digit_doc (n : Nat) (h : n < 16) : tappetref01_digit.f (n : Int) = some ((hx n).toNat : Int) := by
  have : ∀ v : Fin 16, tappetref01_digit.f ((v.val : Nat) : Int) = some ((hx v.val).toNat : Int) := by decide +kernel
  exact this ⟨n, h⟩
theorem quote_doc_l (s : ByteArray) (hs : s.size ≤ 16777216) (m : Nat) : ∀ (k i : Nat) (out : List UInt8), i + m = s.size → 3 * m + 1 ≤ k → out.length ≤ 4 * i + 1 →
    tappetref01_Quote.l0 k s (ints out) i = some ⟨(out ++ (s.toList.drop i).flatMap qc ++ [34]).toArray⟩ := by
  induction m with
  | zero =>
    intro k i out hi hk ho
    obtain ⟨k, rfl⟩ : ∃ e, k = e + 1 := ⟨k - 1, by omega⟩
    have hl : (ints out).length = out.length := by simp [ints]
    simp only [tappetref01_Quote.l0]
    rw [if_neg (by omega), if_pos (by omega), List.drop_of_length_le (by rw [toList_eq]; simp; omega)]
    rw [show ints out ++ [34] = ints (out ++ [34]) from by simp [ints], ints_str]
    simp
  | succ m ih =>
    intro k i out hi hk ho
    obtain ⟨k, rfl⟩ : ∃ e, k = e + 3 := ⟨k - 3, by omega⟩
    have hlt : i < s.size := by omega
    have hc := s[i].toNat_lt
    have hl : (ints out).length = out.length := by simp [ints]
    have e3 : wrap64 ((i : Int) + 1) = ((i + 1 : Nat) : Int) := by unfold wrap64; omega
    have step : ∀ (j : Nat) (q : List UInt8), 3 * m + 1 ≤ j → qc s[i] = q → q.length ≤ 4 → tappetref01_Quote.l0 j s (ints (out ++ q)) ((i + 1 : Nat) : Int) = some ⟨(out ++ (s.toList.drop i).flatMap qc ++ [34]).toArray⟩ := by
      intro j q hj hq hq4
      rw [ih j (i + 1) (out ++ q) (by omega) hj (by rw [List.length_append]; omega), drop_at s i hlt, List.flatMap_cons, hq]
      simp only [List.append_assoc]
    simp only [tappetref01_Quote.l0]
    rw [if_pos (by omega), if_pos (by omega), bt_at_ s i hlt]
    by_cases h34 : s[i].toNat = 34 ∨ s[i].toNat = 92
    · have hx : (if (s[i].toNat : Int) = 34 then tappetref01_Quote.j1 (k + 2) s (ints out) i (s[i].toNat : Int) true else tappetref01_Quote.j1 (k + 2) s (ints out) i (s[i].toNat : Int) ((s[i].toNat : Int) == 92)) = tappetref01_Quote.j1 (k + 2) s (ints out) i (s[i].toNat : Int) true := by
        by_cases h : s[i].toNat = 34
        · rw [if_pos (by omega)]
        · rw [if_neg (by omega)]
          have : ((s[i].toNat : Int) == 92) = true := beq_iff_eq.2 (by omega)
          rw [this]
      rw [hx]
      simp only [tappetref01_Quote.j1, if_true, Option.bind_some]
      rw [if_pos (by simp; omega), e3, ← step (k + 1) [92, s[i]] (by omega) (by unfold qc; rw [if_pos h34]) (by simp)]
      simp [ints]
    · have h92 : ((s[i].toNat : Int) == 92) = false := beq_eq_false_iff_ne.2 (by omega)
      rw [if_neg (by omega), h92]
      simp only [tappetref01_Quote.j1, Bool.false_eq_true, if_false]
      by_cases hp : 32 ≤ s[i].toNat ∧ s[i].toNat ≤ 126
      · have hd : decide ((s[i].toNat : Int) > 126) = false := decide_eq_false (by omega)
        rw [if_neg (by omega), hd]
        simp only [tappetref01_Quote.j2, Bool.false_eq_true, if_false]
        rw [if_pos (by omega), e3, ← step k [s[i]] (by omega) (by unfold qc; rw [if_neg h34, if_pos hp]) (by simp)]
        simp [ints]
      · have hxx : (if (s[i].toNat : Int) < 32 then tappetref01_Quote.j2 (k + 1) s (ints out) i (s[i].toNat : Int) true else tappetref01_Quote.j2 (k + 1) s (ints out) i (s[i].toNat : Int) (decide ((s[i].toNat : Int) > 126))) = tappetref01_Quote.j2 (k + 1) s (ints out) i (s[i].toNat : Int) true := by
          by_cases h : s[i].toNat < 32
          · rw [if_pos (by omega)]
          · rw [if_neg (by omega)]
            have : decide ((s[i].toNat : Int) > 126) = true := decide_eq_true (by omega)
            rw [this]
        have e16 : (Int.tdiv (s[i].toNat : Int) 16) % 256 = ((s[i].toNat / 16 : Nat) : Int) := by rw [Int.tdiv_eq_ediv_of_nonneg (by omega)]; omega
        have e15 : Int.tmod (s[i].toNat : Int) 16 = ((s[i].toNat % 16 : Nat) : Int) := by rw [Int.tmod_eq_emod_of_nonneg (by omega)]; omega
        rw [hxx]
        simp only [tappetref01_Quote.j2, if_true]
        rw [e16, e15, digit_doc _ (by omega), digit_doc _ (by omega)]
        simp only [Option.bind_some]
        rw [if_pos (by simp; omega), e3, ← step k [92, 120, hx (s[i].toNat / 16), hx (s[i].toNat % 16)] (by omega) (by unfold qc; rw [if_neg h34, if_neg hp]) (by simp)]
        simp [ints]
theorem quote_doc (s : ByteArray) (hs : s.size ≤ 16777216) (k : Nat) (hk : 3 * s.size + 1 ≤ k) : tappetref01_Quote.f k s = some (quP s) := by
  unfold tappetref01_Quote.f
  have := quote_doc_l s hs s.size k 0 [34] (by omega) hk (by simp)
  rw [show ints [34] = [34] from rfl] at this
  rw [show ((0 : Nat) : Int) = 0 from rfl] at this
  rw [this]
  rfl

/-! ### the document's Unquote -/
/-- the bytes before the last, from place i on -/
def tl (s : ByteArray) (i : Nat) : List UInt8 := (s.toList.take (s.size - 1)).drop i
theorem tl_at (s : ByteArray) (i : Nat) (h : i + 1 < s.size) : tl s i = s[i] :: tl s (i + 1) := by
  unfold tl
  have hl : i < (s.toList.take (s.size - 1)).length := by rw [List.length_take, toList_eq]; simp; omega
  rw [List.drop_eq_getElem_cons hl]
  congr 1
  simp [toList_eq]
  rfl
theorem tl_end (s : ByteArray) (i : Nat) (h : s.size ≤ i + 1) : tl s i = [] := by
  unfold tl
  exact List.drop_of_length_le (by rw [List.length_take]; omega)
def docR (s : ByteArray) (b : List Int) : ByteArray × Int := if (quP (strOfNums b)).toList = s.toList then (strOfNums b, 0) else (⟨#[]⟩, 15)
theorem unq2_plain (c : UInt8) (l : List UInt8) (h : ¬ c.toNat = 92) : unq2 (c :: l) = (c.toNat : Int) :: unq2 l := by
  rw [unq2.eq_def]
  simp only
  rw [if_pos h]
theorem unq2_esc (c d : UInt8) (l : List UInt8) (h : c.toNat = 92) (hd : ¬ d.toNat = 120) : unq2 (c :: d :: l) = (d.toNat : Int) :: unq2 l := by
  rw [unq2.eq_def]
  simp only
  rw [if_neg (by simp [h]), if_pos hd]
theorem unq2_hex (c d a b : UInt8) (l : List UInt8) (h : c.toNat = 92) (hd : d.toNat = 120) : unq2 (c :: d :: a :: b :: l) = ((((nib2 a.toNat : Nat) : Int) * 16) % 256 + ((nib2 b.toNat : Nat) : Int)) % 256 :: unq2 l := by
  rw [unq2.eq_def]
  simp only
  rw [if_neg (by simp [h]), if_neg (by simp [hd])]
theorem unq2_short (c d : UInt8) (l : List UInt8) (h : c.toNat = 92) (hd : d.toNat = 120) (hl : l.length ≤ 1) : unq2 (c :: d :: l) = unq2 l := by
  rw [unq2.eq_def]
  simp only
  rw [if_neg (by simp [h]), if_neg (by simp [hd])]
  rcases l with _ | ⟨a, _ | ⟨b, l⟩⟩
  · simp [unq2]
  · rfl
  · simp at hl
theorem unq2_lone (c : UInt8) (h : c.toNat = 92) : unq2 [c] = [] := by
  rw [unq2.eq_def]
  simp only
  rw [if_neg (by simp [h])]
theorem wr1 (i : Nat) (h : i ≤ 4194400) : wrap64 ((i : Int) + 1) = ((i + 1 : Nat) : Int) := by unfold wrap64; omega
theorem wr2 (i : Nat) (h : i ≤ 4194400) : wrap64 ((i : Int) + 2) = ((i + 2 : Nat) : Int) := by unfold wrap64; omega
theorem wrm (n : Nat) (h : 2 ≤ n) (h' : n ≤ 4194400) : wrap64 ((n : Int) - 1) = ((n - 1 : Nat) : Int) := by unfold wrap64; omega
theorem doc_plain_step (s : ByteArray) (k i : Nat) (b : List Int) (hs : s.size ≤ 4194308) (hlt : i + 1 < s.size) (h : ¬ s[i].toNat = 92) (hb : b.length ≤ 4194308) :
    tappetref01_Unquote.l0 (k + 1) s b i = tappetref01_Unquote.l0 k s (b ++ [(s[i].toNat : Int)]) ((i + 1 : Nat) : Int) := by
  simp only [tappetref01_Unquote.l0]
  rw [wrm s.size (by omega) (by omega), if_pos (by omega), if_pos (by omega), if_pos (by omega), bt_at_ s i (by omega), if_neg (by omega), if_pos (by omega), wr1 i (by omega)]
/-- behind a backslash -/
def docB (s : ByteArray) (i : Nat) : Bool := if i + 2 < s.size then (bt s ((i + 1 : Nat) : Int)) != 120 else false
theorem doc_esc_step (s : ByteArray) (k i : Nat) (b : List Int) (hs : s.size ≤ 4194308) (hlt : i + 1 < s.size) (h : s[i].toNat = 92) :
    tappetref01_Unquote.l0 (k + 1 + 1) s b i = tappetref01_Unquote.j2 (k + 1) s b ((i + 1 : Nat) : Int) (docB s i) := by
  generalize k + 1 = e
  simp only [tappetref01_Unquote.l0]
  rw [wrm s.size (by omega) (by omega), if_pos (by omega), if_pos (by omega), if_pos (by omega), bt_at_ s i (by omega), if_pos (by omega), wr1 i (by omega)]
  unfold docB
  by_cases hl : i + 2 < s.size
  · rw [if_pos (by omega), if_pos (by omega), if_pos (by omega), if_pos hl]
  · rw [if_neg (by omega), if_neg hl]
theorem doc_plain2_step (s : ByteArray) (k i : Nat) (b : List Int) (hs : s.size ≤ 4194308) (hl : i + 2 < s.size) (h : ¬ s[i + 1].toNat = 120) (hb : b.length ≤ 4194308) :
    tappetref01_Unquote.j2 (k + 1) s b ((i + 1 : Nat) : Int) (docB s i) = tappetref01_Unquote.l0 k s (b ++ [(s[i + 1].toNat : Int)]) ((i + 2 : Nat) : Int) := by
  have hB : docB s i = true := by
    unfold docB
    rw [if_pos hl, bt_at_ s (i + 1) (by omega)]
    exact bne_iff_ne.2 (by omega)
  rw [hB]
  simp only [tappetref01_Unquote.j2, if_true]
  rw [if_pos (by omega), if_pos (by omega), if_pos (by omega), bt_at_ s (i + 1) (by omega), wr1 (i + 1) (by omega)]
theorem docB_false (s : ByteArray) (i : Nat) (hl : i + 2 < s.size) (h : s[i + 1].toNat = 120) : docB s i = false := by
  unfold docB
  rw [if_pos hl, bt_at_ s (i + 1) (by omega)]
  simp [h]
theorem doc_short_step (s : ByteArray) (k i : Nat) (b : List Int) (hs : s.size ≤ 4194308) (hl : i + 2 < s.size) (hl3 : ¬ i + 4 < s.size) (h : s[i + 1].toNat = 120) :
    tappetref01_Unquote.j2 (k + 1) s b ((i + 1 : Nat) : Int) (docB s i) = tappetref01_Unquote.l0 k s b ((i + 2 : Nat) : Int) := by
  rw [docB_false s i hl h]
  simp only [tappetref01_Unquote.j2, Bool.false_eq_true, if_false]
  rw [wr2 (i + 1) (by omega), wrm s.size (by omega) (by omega), if_neg (by omega), wr1 (i + 1) (by omega)]
theorem doc_lone_step (s : ByteArray) (k i : Nat) (b : List Int) (hs : s.size ≤ 4194308) (hlt : i + 1 < s.size) (hl : ¬ i + 2 < s.size) :
    tappetref01_Unquote.j2 (k + 1) s b ((i + 1 : Nat) : Int) (docB s i) = tappetref01_Unquote.l0 k s b ((i + 2 : Nat) : Int) := by
  have hB : docB s i = false := by unfold docB; rw [if_neg hl]
  rw [hB]
  simp only [tappetref01_Unquote.j2, Bool.false_eq_true, if_false]
  rw [wr2 (i + 1) (by omega), wrm s.size (by omega) (by omega), if_neg (by omega), wr1 (i + 1) (by omega)]
theorem doc_hex_step (s : ByteArray) (k i : Nat) (b : List Int) (hs : s.size ≤ 4194308) (hl3 : i + 4 < s.size) (h : s[i + 1].toNat = 120) (hb : b.length ≤ 4194308) (hk : 18 ≤ k) :
    tappetref01_Unquote.j2 (k + 1) s b ((i + 1 : Nat) : Int) (docB s i) = tappetref01_Unquote.l0 k s (b ++ [((((nib2 s[i + 2].toNat : Nat) : Int) * 16) % 256 + ((nib2 s[i + 3].toNat : Nat) : Int)) % 256]) ((i + 4 : Nat) : Int) := by
  rw [docB_false s i (by omega) h]
  simp only [tappetref01_Unquote.j2, Bool.false_eq_true, if_false]
  rw [wr1 (i + 1) (by omega), wr2 (i + 1) (by omega), wrm s.size (by omega) (by omega), wr1 (i + 1 + 2) (by omega), if_pos (by omega), if_pos (by omega), if_pos (by omega), bt_at_ s (i + 1 + 1) (by omega), nib_doc _ k hk]
  simp only [Option.bind_some]
  rw [if_pos (by omega), if_pos (by omega), bt_at_ s (i + 1 + 2) (by omega), nib_doc _ k hk]
  simp only [Option.bind_some]
  rw [if_pos (by omega)]
set_option maxHeartbeats 1000000 in
theorem doc_loop (s : ByteArray) (h2 : 2 ≤ s.size) (hs : s.size ≤ 4194308) (m : Nat) : ∀ (k i : Nat) (b : List Int), s.size - i ≤ m → i ≤ s.size → 2 * m + 3 * s.size + 30 ≤ k → b.length ≤ i →
    tappetref01_Unquote.l0 k s b i = some (docR s (b ++ unq2 (tl s i))) := by
  induction m with
  | zero =>
    intro k i b hm hi hk hb
    obtain ⟨k, rfl⟩ : ∃ e, k = e + 1 := ⟨k - 1, by omega⟩
    have e1 := wrm s.size h2 (by omega)
    simp only [tappetref01_Unquote.l0]
    rw [e1, if_neg (by omega), quote_doc _ (by rw [strOfNums_size]; omega) k (by rw [strOfNums_size]; omega), tl_end s i (by omega)]
    simp only [Option.bind_some, unq2, List.append_nil]
    unfold docR
    split <;> rfl
  | succ m ih =>
    intro k i b hm hi hk hb
    obtain ⟨k, rfl⟩ : ∃ e, k = e + 1 := ⟨k - 1, by omega⟩
    by_cases hlt : i + 1 < s.size
    · have e2 := wr1 i (by omega)
      have ihn := fun (j : Nat) (b' : List Int) (h1 : i < j) (h2 : j ≤ s.size) (h3 : b'.length ≤ j) => ih k j b' (by omega) h2 (by omega) h3
      have ihm := fun (e : Nat) (he : k = e + 1) (j : Nat) (b' : List Int) (h1 : i < j) (h2 : j ≤ s.size) (h3 : b'.length ≤ j) => ih e j b' (by omega) h2 (by omega) h3
      clear ih
      rw [tl_at s i hlt]
      by_cases h92 : s[i].toNat = 92
      · obtain ⟨k, rfl⟩ : ∃ e, k = e + 1 := ⟨k - 1, by omega⟩
        rw [doc_esc_step s k i b hs hlt h92]
        by_cases hl1 : i + 2 < s.size
        · rw [tl_at s (i + 1) hl1]
          by_cases hx : s[i + 1].toNat = 120
          · by_cases hl3 : i + 4 < s.size
            · rw [doc_hex_step s k i b hs hl3 hx (by omega) (by omega), ihm k rfl (i + 4) _ (by omega) (by omega) (by simp; omega), tl_at s (i + 1 + 1) (by omega), tl_at s (i + 1 + 1 + 1) (by omega), unq2_hex _ _ _ _ _ h92 hx]
              simp only [List.append_assoc, List.cons_append, List.nil_append]
            · rw [doc_short_step s k i b hs hl1 hl3 hx, ihm k rfl (i + 2) b (by omega) (by omega) (by omega), unq2_short _ _ _ h92 hx (by unfold tl; rw [List.length_drop, List.length_take]; omega)]
          · rw [doc_plain2_step s k i b hs hl1 hx (by omega), ihm k rfl (i + 2) _ (by omega) (by omega) (by simp; omega), unq2_esc _ _ _ h92 hx]
            simp only [List.append_assoc, List.cons_append, List.nil_append]
        · rw [doc_lone_step s k i b hs hlt hl1, ihm k rfl (i + 2) b (by omega) (by omega) (by omega), tl_end s (i + 1) (by omega), tl_end s (i + 2) (by omega), unq2_lone _ h92]
          simp [unq2]
      · rw [doc_plain_step s k i b hs hlt h92 (by omega), ihn (i + 1) _ (by omega) (by omega) (by simp; omega), unq2_plain _ _ h92]
        simp only [List.append_assoc, List.cons_append, List.nil_append]
    · have e1 := wrm s.size h2 (by omega)
      simp only [tappetref01_Unquote.l0]
      rw [e1, if_neg (by omega), quote_doc _ (by rw [strOfNums_size]; omega) k (by rw [strOfNums_size]; omega), tl_end s i (by omega)]
      simp only [Option.bind_some, unq2, List.append_nil]
      unfold docR
      split <;> rfl

/-- what the document's Unquote answers -/
def docU (s : ByteArray) : ByteArray × Int :=
  if 2 ≤ s.size then (if bt s 0 = 34 then (if bt s ((s.size - 1 : Nat) : Int) = 34 then docR s (unq2 (tl s 1)) else (⟨#[]⟩, 15)) else (⟨#[]⟩, 15)) else (⟨#[]⟩, 15)
theorem doc_f (s : ByteArray) (hs : s.size ≤ 4194308) (k : Nat) (hk : 5 * s.size + 40 ≤ k) : tappetref01_Unquote.f k s = some (docU s) := by
  obtain ⟨k, rfl⟩ : ∃ e, k = e + 1 := ⟨k - 1, by omega⟩
  unfold tappetref01_Unquote.f docU
  by_cases h2 : 2 ≤ s.size
  · have e1 : wrap64 ((s.size : Int) - 1) = ((s.size - 1 : Nat) : Int) := by unfold wrap64; omega
    rw [if_neg (by omega), if_pos (by omega), if_pos h2, e1]
    by_cases h0 : bt s 0 = 34
    · rw [if_pos h0, if_pos h0, if_pos (by omega), if_pos (by omega)]
      by_cases h1 : bt s ((s.size - 1 : Nat) : Int) = 34
      · have hb : (bt s ((s.size - 1 : Nat) : Int) != 34) = false := by simp [h1]
        rw [if_pos h1, hb]
        simp only [tappetref01_Unquote.j0, Bool.false_eq_true, if_false]
        have := doc_loop s h2 hs s.size k 1 [] (by omega) (by omega) (by omega) (by simp)
        rw [show ((1 : Nat) : Int) = 1 from rfl] at this
        rw [this]
        rfl
      · have hb : (bt s ((s.size - 1 : Nat) : Int) != 34) = true := bne_iff_ne.2 h1
        rw [if_neg h1, hb]
        simp only [tappetref01_Unquote.j0, if_true]
    · rw [if_neg h0, if_neg h0]
      simp only [tappetref01_Unquote.j0, if_true]
  · rw [if_pos (by omega), if_neg h2]
    simp only [tappetref01_Unquote.j0, if_true]


/-! ### the two are one -/
theorem quP_list (s : ByteArray) : (quP s).toList = quB s.toList := by rw [toList_eq]; rfl
theorem size_list (s : ByteArray) : s.size = s.toList.length := by rw [toList_eq]; simp
theorem inner_tl (s : ByteArray) : (innerP s).toList = tl s 1 := by
  unfold innerP tl
  rw [Lib.extract_toList, ← toList_eq, List.drop_take]
theorem tl_quoted (s : ByteArray) (l : List UInt8) (h : s.toList = quB l) : tl s 1 = l.flatMap qc := by
  unfold tl
  rw [size_list, h]
  unfold quB
  simp
theorem ofStr (b : List Int) (s : ByteArray) (h : (quP (strOfNums b)).toList = s.toList) : s.toList = quB (strOfNums b).toList := by rw [← h, quP_list]
theorem same_two (s : ByteArray) : unqR s (unq (innerP s).toList) = docR s (unq2 (tl s 1)) := by
  rw [inner_tl]
  by_cases h : ∃ l, s.toList = quB l
  · obtain ⟨l, hl⟩ := h
    rw [tl_quoted s l hl, unq_quoted, unq2_quoted]
    rfl
  · have h1 : ∀ b, ¬ (quP (strOfNums b)).toList = s.toList := fun b hb => h ⟨_, ofStr b s hb⟩
    unfold docR
    rw [if_neg (h1 _)]
    cases unq (tl s 1) with
    | none => rfl
    | some b => exact if_neg (h1 b)
theorem unqP_doc (s : ByteArray) : unqP s = docU s := by
  unfold unqP docU
  rw [same_two]
theorem quB_length (l : List UInt8) : 2 ≤ (quB l).length ∧ (quB l).length ≤ 4 * l.length + 2 := by
  have := flat_length l
  unfold quB
  rw [List.length_append, List.length_cons, List.length_singleton]
  omega
theorem bt_list (s : ByteArray) (i : Nat) (h : i < s.size) (c : UInt8) (hc : s.toList[i]? = some c) : bt s (i : Int) = (c.toNat : Int) := by
  rw [bt_at_ s i h]
  rw [toList_eq, List.getElem?_eq_getElem (by simpa using h)] at hc
  have := Option.some.inj hc
  rw [← this]
  rfl
theorem unq_back (s : ByteArray) : unqP (quP s) = (s, 0) := by
  have hl := quB_length s.toList
  have hsz : (quP s).size = (quB s.toList).length := by rw [size_list, quP_list]
  have b0 : bt (quP s) ((0 : Nat) : Int) = ((34 : UInt8).toNat : Int) := bt_list _ 0 (by omega) 34 (by rw [quP_list]; rfl)
  have b1 : bt (quP s) (((quP s).size - 1 : Nat) : Int) = ((34 : UInt8).toNat : Int) := bt_list _ _ (by omega) 34 (by
    rw [quP_list, hsz]
    unfold quB
    rw [List.getElem?_append_right (by simp)]
    simp)
  have hs : strOfNums (ints s.toList) = s := by
    rw [ints_str, toList_eq]
  unfold unqP
  have b0' : bt (quP s) 0 = 34 := b0
  have b1' : bt (quP s) (((quP s).size - 1 : Nat) : Int) = 34 := b1
  rw [if_pos (by omega), if_pos b0', if_pos b1', inner_tl, tl_quoted (quP s) s.toList (quP_list s), unq_quoted]
  unfold unqR
  simp only
  rw [hs, if_pos rfl]
theorem unq_right (t : ByteArray) (h : (unqP t).2 = 0) : (quP (unqP t).1).toList = t.toList ∧ (unqP t).1.size ≤ t.size := by
  have bad : ∀ x : ByteArray, ((x, (15 : Int))).2 = 0 → False := fun x h => by cases h
  unfold unqP at h ⊢
  by_cases h2 : 2 ≤ t.size
  · rw [if_pos h2] at h ⊢
    by_cases c0 : bt t 0 = 34
    · rw [if_pos c0] at h ⊢
      by_cases c1 : bt t ((t.size - 1 : Nat) : Int) = 34
      · rw [if_pos c1] at h ⊢
        cases ho : unq (innerP t).toList with
        | none => rw [ho] at h; exact (bad _ h).elim
        | some b =>
          rw [ho] at h
          unfold unqR at h ⊢
          simp only at h ⊢
          by_cases hc : (quP (strOfNums b)).toList = t.toList
          · rw [if_pos hc]
            refine ⟨hc, ?_⟩
            have := unq_length _ _ b (Nat.le_refl _) ho
            rw [← size_list] at this
            have hi : (innerP t).size ≤ t.size := by unfold innerP; rw [ByteArray.size_extract]; omega
            show (strOfNums b).size ≤ t.size
            rw [strOfNums_size]
            omega
          · rw [if_neg hc] at h; exact (bad _ h).elim
      · rw [if_neg c1] at h; exact (bad _ h).elim
    · rw [if_neg c0] at h; exact (bad _ h).elim
  · rw [if_neg h2] at h; exact (bad _ h).elim

/-- THE LAW, for texts of at most 1048576 bytes. -/
theorem OctetQuotes (s t : ByteArray) (hs : s.size ≤ 1048576) (ht : t.size ≤ 1048576) : ∃ k, tappetlaw01_OctetQuotes.f k s t = some true := by
  have hq := quB_length s.toList
  have hqs : (quP s).size = (quB s.toList).length := by rw [size_list, quP_list]
  rw [← size_list] at hq
  obtain ⟨k, hk⟩ : ∃ k, 5 * t.size + 5 * s.size + 100 ≤ k := ⟨_, Nat.le_refl _⟩
  refine ⟨k, ?_⟩
  have r1 : octet_Unquote.f t = some (unqP t) := if_pos (by omega)
  have r2 : tappetref01_Unquote.f k t = some (unqP t) := by rw [unqP_doc]; exact doc_f t (by omega) k (by omega)
  have r3 : octet_Quote.f k s = some (quP s) := quote_f s (by omega) k (by omega)
  have r4 : octet_Unquote.f (quP s) = some (s, 0) := by
    unfold octet_Unquote.f
    rw [if_pos (by omega), unq_back]
  have r5 : tappetref01_Quote.f k s = some (quP s) := quote_doc s (by omega) k (by omega)
  unfold tappetlaw01_OctetQuotes.f
  rw [r1, r2, r3]
  simp only [Option.bind_some]
  rw [r4]
  simp only [Option.bind_some, if_true, r5]
  by_cases h0 : (unqP t).2 = 0
  · obtain ⟨h1, h2⟩ := unq_right t h0
    rw [if_pos h0, quote_f (unqP t).1 (by omega) k (by omega)]
    simp only [Option.bind_some]
    rw [if_pos h1]
    rfl
  · rw [if_neg h0]
    rfl

end Go.Proofs.Ytbhlalnpefijkaa.Pure
