/- OctetHexes: bytes in digits, digits as bytes, as the document says, there and back, into memory of its own. -/
import Derived.Test.YtbhlalnpefijkaaHHexes
namespace Go.Proofs.Ytbhlalnpefijkaa.Pure
set_option linter.unusedVariables false
set_option linter.unusedSimpArgs false
open Go.RowKit Go.Proofs.Ytbhlalnpefijkaa.XC Go.Proofs.YtbhlalnpefijkaaW.PrintWords Go.Proofs.YtbhlalnpefijkaaW.PrintLast Go.Proofs.YtbhlalnpefijkaaW.PrintMore

theorem wr_in (n : Int) (h : -9223372036854775808 ≤ n ∧ n ≤ 9223372036854775807) : wrap64 n = n := by unfold wrap64; omega
theorem nextI (i : Nat) (h : i < 9223372036854775807) : wrap64 ((i : Int) + 1) = ((i + 1 : Nat) : Int) := by rw [wr_in _ (by omega)]; rfl
theorem nextI2 (i : Nat) (h : i < 9223372036854775806) : wrap64 ((i : Int) + 2) = ((i + 2 : Nat) : Int) := by rw [wr_in _ (by omega)]; rfl
def Byte (x : Int) : Prop := 0 ≤ x ∧ x ≤ 255
/-- the digits -/
def D : ByteArray := ⟨#[48, 49, 50, 51, 52, 53, 54, 55, 56, 57, 97, 98, 99, 100, 101, 102]⟩
def hi (x : Int) : Int := bt D (x / 16)
def lo (x : Int) : Int := bt D (Go.bits .and .u8 x 15)
def hexL (l : List Int) : List Int := l.flatMap fun x => [hi x, lo x]
theorem hexL_cons (x : Int) (l : List Int) : hexL (x :: l) = hi x :: lo x :: hexL l := rfl
theorem hexL_length (l : List Int) : (hexL l).length = 2 * l.length := by
  induction l with
  | nil => rfl
  | cons x l ih => rw [hexL_cons, List.length_cons, List.length_cons, ih, List.length_cons]; omega
/-- the value of a digit; none: it is none -/
def nib (c : Int) : Option Int := if 48 ≤ c ∧ c ≤ 57 then some (c - 48) else if 97 ≤ c ∧ c ≤ 102 then some (c - 87) else none
def unhexL : List Int → Option (List Int)
  | [] => some []
  | [_] => none
  | c :: d :: r => match nib c, nib d with
    | some a, some b => (unhexL r).map ((a * 16 + b) :: ·)
    | _, _ => none

/-! ### tables -/
theorem byte_all {p : Int → Bool} (h : (List.range 256).all (fun n => p (n : Int)) = true) (x : Int) (hx : Byte x) : p x = true := by
  have := List.all_eq_true.mp h x.toNat (List.mem_range.mpr (by have := hx.1; have := hx.2; omega))
  rwa [Int.toNat_of_nonneg hx.1] at this
theorem tab1 : (List.range 256).all (fun n => decide (0 ≤ (n : Int) / 16 ∧ (n : Int) / 16 < 16 ∧ 0 ≤ Go.bits .and .u8 (n : Int) 15 ∧ Go.bits .and .u8 (n : Int) 15 < 16 ∧ XH.tappetref01_digit.f ((Int.tdiv (n : Int) 16) % 256) = some (hi n) ∧ XH.tappetref01_digit.f (Int.tmod (n : Int) 16) = some (lo n) ∧ nib (hi n) = some ((n : Int) / 16) ∧ nib (lo n) = some ((n : Int) % 16) ∧ 0 ≤ hi n ∧ hi n ≤ 255 ∧ 0 ≤ lo n ∧ lo n ≤ 255)) = true := by decide +kernel
theorem tab2 : (List.range 256).all (fun n => decide (XH.octet_nibble.f 20 (n : Int) = some ((nib n).getD 0, (nib n).isSome) ∧ XH.tappetref01_nibble.f 20 (n : Int) = some ((nib n).getD 16))) = true := by decide +kernel
theorem tab3 : (List.range 16).all (fun a => (List.range 16).all fun b => decide (Go.bits .or .u8 (((a : Int) * 16) % 256) (b : Int) = (a : Int) * 16 + b ∧ ((((a : Int) * 16) % 256) + b) % 256 = (a : Int) * 16 + b ∧ hi ((a : Int) * 16 + b) = bt D a ∧ lo ((a : Int) * 16 + b) = bt D b)) = true := by decide +kernel
theorem tab4 : (List.range 256).all (fun n => decide ((nib n).all (fun a => decide (0 ≤ a ∧ a < 16 ∧ bt D a = n)) = true)) = true := by decide +kernel

theorem byte_tab (x : Int) (hx : Byte x) : 0 ≤ x / 16 ∧ x / 16 < 16 ∧ 0 ≤ Go.bits .and .u8 x 15 ∧ Go.bits .and .u8 x 15 < 16 ∧ XH.tappetref01_digit.f ((Int.tdiv x 16) % 256) = some (hi x) ∧ XH.tappetref01_digit.f (Int.tmod x 16) = some (lo x) ∧ nib (hi x) = some (x / 16) ∧ nib (lo x) = some (x % 16) ∧ 0 ≤ hi x ∧ hi x ≤ 255 ∧ 0 ≤ lo x ∧ lo x ≤ 255 :=
  of_decide_eq_true (byte_all (p := fun x => decide (0 ≤ x / 16 ∧ x / 16 < 16 ∧ 0 ≤ Go.bits .and .u8 x 15 ∧ Go.bits .and .u8 x 15 < 16 ∧ XH.tappetref01_digit.f ((Int.tdiv x 16) % 256) = some (hi x) ∧ XH.tappetref01_digit.f (Int.tmod x 16) = some (lo x) ∧ nib (hi x) = some (x / 16) ∧ nib (lo x) = some (x % 16) ∧ 0 ≤ hi x ∧ hi x ≤ 255 ∧ 0 ≤ lo x ∧ lo x ≤ 255)) tab1 x hx)
theorem nib_tab (c : Int) (hc : Byte c) : ∀ j, XH.octet_nibble.f (20 + j) c = some ((nib c).getD 0, (nib c).isSome) ∧ XH.tappetref01_nibble.f (20 + j) c = some ((nib c).getD 16)
  | 0 => of_decide_eq_true (byte_all (p := fun c => decide (XH.octet_nibble.f 20 c = some ((nib c).getD 0, (nib c).isSome) ∧ XH.tappetref01_nibble.f 20 c = some ((nib c).getD 16))) tab2 c hc)
  | j + 1 => ⟨XH.octet_nibble.mono c (20 + j) _ (nib_tab c hc j).1, XH.tappetref01_nibble.mono c (20 + j) _ (nib_tab c hc j).2⟩
theorem nib_o (k : Nat) (hk : 20 ≤ k) (c : Int) (hc : Byte c) : XH.octet_nibble.f k c = some ((nib c).getD 0, (nib c).isSome) := by
  have := (nib_tab c hc (k - 20)).1
  rwa [show 20 + (k - 20) = k by omega] at this
theorem nib_r (k : Nat) (hk : 20 ≤ k) (c : Int) (hc : Byte c) : XH.tappetref01_nibble.f k c = some ((nib c).getD 16) := by
  have := (nib_tab c hc (k - 20)).2
  rwa [show 20 + (k - 20) = k by omega] at this
theorem nib_lt (c a : Int) (h : nib c = some a) : 0 ≤ a ∧ a < 16 := by
  unfold nib at h
  split at h
  · injection h; omega
  · split at h
    · injection h; omega
    · cases h
theorem nib_back (c a : Int) (hc : Byte c) (h : nib c = some a) : bt D a = c := by
  have := of_decide_eq_true (byte_all (p := fun n => decide ((nib n).all (fun a => decide (0 ≤ a ∧ a < 16 ∧ bt D a = n)) = true)) tab4 c hc)
  rw [h] at this
  simp at this
  exact this.2.2
theorem pair_tab (a b : Int) (ha : 0 ≤ a ∧ a < 16) (hb : 0 ≤ b ∧ b < 16) : Go.bits .or .u8 ((a * 16) % 256) b = a * 16 + b ∧ (((a * 16) % 256) + b) % 256 = a * 16 + b ∧ hi (a * 16 + b) = bt D a ∧ lo (a * 16 + b) = bt D b := by
  have := of_decide_eq_true (List.all_eq_true.mp (List.all_eq_true.mp tab3 a.toNat (List.mem_range.mpr (by omega))) b.toNat (List.mem_range.mpr (by omega)))
  rwa [Int.toNat_of_nonneg ha.1, Int.toNat_of_nonneg hb.1] at this

/-! ### digits -/
theorem rd_at (l : List Int) (i : Nat) (hi : i < l.length) : rd l (i : Int) = l[i] := by
  unfold rd
  rw [Int.toNat_natCast, List.getD_eq_getElem?_getD, List.getElem?_eq_getElem hi]
  rfl
theorem hex_l0 (l : List Int) (hl : ∀ x ∈ l, Byte x) (hb : l.length ≤ 1048576) : ∀ (d i k : Nat) (acc : List Int), i + d = l.length → d < k → acc.length + 2 * d ≤ 2097152 → XH.octet_Hex.l0 k acc l (l.length : Int) (i : Int) = some (strOfNums (acc ++ hexL (l.drop i)))
  | 0, i, k + 1, acc, h, _, _ => by
    rw [XH.octet_Hex.l0, if_neg (by omega), List.drop_eq_nil_of_le (by omega)]
    simp [hexL]
  | d + 1, i, k + 1, acc, h, hk, ha => by
    have hi' : i < l.length := by omega
    obtain ⟨t1, t2, t3, t4, _⟩ := byte_tab l[i] (hl _ (List.getElem_mem hi'))
    rw [XH.octet_Hex.l0, if_pos (by omega), if_pos (by omega), if_pos (by omega), rd_at l i hi', if_pos t1, if_pos t2, if_pos t3, if_pos t4, Option.bind_some, if_pos (by simp; omega), nextI i (by omega)]
    have ih := hex_l0 l hl hb d (i + 1) k (acc ++ [hi l[i], lo l[i]]) (by omega) (by omega) (by simp; omega)
    rw [List.drop_eq_getElem_cons hi', hexL_cons]
    simp only [List.append_assoc, List.cons_append, List.nil_append] at ih
    exact ih
theorem hex_f (l : List Int) (hl : ∀ x ∈ l, Byte x) (hb : l.length ≤ 1048576) (k : Nat) (hk : l.length < k) : XH.octet_Hex.f k l = some (strOfNums (hexL l)) := by
  have hw : wrap64 (2 * (l.length : Int)) = 2 * (l.length : Int) := wr_in _ (by omega)
  unfold XH.octet_Hex.f
  rw [hw, if_pos (by omega), if_pos (by omega)]
  exact hex_l0 l hl hb l.length 0 k [] (by omega) hk (by simp; omega)
theorem refhex_l0 (l : List Int) (hl : ∀ x ∈ l, Byte x) (hb : l.length ≤ 1048576) : ∀ (d i k : Nat) (acc : List Int), i + d = l.length → d < k → acc.length + 2 * d ≤ 2097152 → XH.tappetref01_Hex.l0 k l acc (i : Int) = some (strOfNums (acc ++ hexL (l.drop i)))
  | 0, i, k + 1, acc, h, _, _ => by
    rw [XH.tappetref01_Hex.l0, if_neg (by omega), List.drop_eq_nil_of_le (by omega)]
    simp [hexL]
  | d + 1, i, k + 1, acc, h, hk, ha => by
    have hi' : i < l.length := by omega
    obtain ⟨_, _, _, _, t5, t6, _⟩ := byte_tab l[i] (hl _ (List.getElem_mem hi'))
    rw [XH.tappetref01_Hex.l0, if_pos (by omega), if_pos (by omega), rd_at l i hi', t5, Option.bind_some, t6, Option.bind_some, Option.bind_some, if_pos (by simp; omega), nextI i (by omega)]
    have ih := refhex_l0 l hl hb d (i + 1) k (acc ++ [hi l[i], lo l[i]]) (by omega) (by omega) (by simp; omega)
    rw [List.drop_eq_getElem_cons hi', hexL_cons]
    simp only [List.append_assoc, List.cons_append, List.nil_append] at ih ⊢
    exact ih
theorem refhex_f (l : List Int) (hl : ∀ x ∈ l, Byte x) (hb : l.length ≤ 1048576) (k : Nat) (hk : l.length < k) : XH.tappetref01_Hex.f k l = some (strOfNums (hexL l)) :=
  refhex_l0 l hl hb l.length 0 k [] (by omega) hk (by simp; omega)

/-! ### digits as bytes -/
theorem bytes_of (s : ByteArray) : ∀ x ∈ bytesOf s, Byte x := by
  intro x hx
  unfold bytesOf at hx
  obtain ⟨b, _, rfl⟩ := List.mem_map.mp hx
  have := b.toNat_lt
  unfold Byte
  omega
theorem bt_get (s : ByteArray) (i : Nat) (h : i < (bytesOf s).length) : bt s (i : Int) = (bytesOf s)[i] := by rw [← rd_bytesOf, rd_at _ i h]
theorem unhexL_length : ∀ (l r : List Int), unhexL l = some r → l.length = 2 * r.length
  | [], r, h => by injection h with h; subst h; rfl
  | [_], r, h => by cases h
  | c :: d :: l, r, h => by
    unfold unhexL at h
    split at h
    · obtain ⟨r', h', rfl⟩ := Option.map_eq_some_iff.mp h
      have := unhexL_length l r' h'
      simp [this]
      omega
    · cases h
theorem unhexL_byte : ∀ (l r : List Int), unhexL l = some r → ∀ x ∈ r, Byte x
  | [], r, h => by injection h with h; subst h; simp
  | [_], r, h => by cases h
  | c :: d :: l, r, h => by
    unfold unhexL at h
    split at h
    · rename_i a b ha hb
      obtain ⟨r', h', rfl⟩ := Option.map_eq_some_iff.mp h
      intro x hx
      rcases List.mem_cons.mp hx with rfl | hx
      · have h1 := nib_lt _ _ ha
        have h2 := nib_lt _ _ hb
        unfold Byte
        omega
      · exact unhexL_byte l r' h' x hx
    · cases h
def out (acc : List Int) : Option (List Int) → List Int × Int
  | some r => (acc ++ r, 0)
  | none => ([], 14)
theorem unhex_l0 (s : ByteArray) (hb : s.size ≤ 4194304) : ∀ (d i k : Nat) (acc : List Int), i + 2 * d = s.size → d + 20 < k → acc.length + d ≤ 4194304 → XH.octet_Unhex.l0 k s acc (i : Int) = some (out acc (unhexL ((bytesOf s).drop i)))
  | 0, i, k + 1, acc, h, _, _ => by
    rw [XH.octet_Unhex.l0, if_neg (by omega), List.drop_eq_nil_of_le (by rw [bytesOf_length]; omega)]
    simp [unhexL, out]
  | d + 1, i, k + 1, acc, h, hk, ha => by
    have hl := bytesOf_length s
    have h0 : i < (bytesOf s).length := by omega
    have h1 : i + 1 < (bytesOf s).length := by omega
    have b0 := bytes_of s _ (List.getElem_mem h0)
    have b1 := bytes_of s _ (List.getElem_mem h1)
    rw [XH.octet_Unhex.l0, if_pos (by omega), if_pos (by omega), bt_get s i h0, nextI i (by omega), bt_get s (i + 1) h1, nib_o k (by omega) _ b0, nib_o k (by omega) _ b1, Option.bind_some, if_pos (by omega), if_pos (by omega), Option.bind_some, nextI2 i (by omega)]
    rw [List.drop_eq_getElem_cons h0, List.drop_eq_getElem_cons h1]
    unfold unhexL
    cases ha1 : nib (bytesOf s)[i] with
    | none => simp [out]
    | some a =>
      cases hb1 : nib (bytesOf s)[i + 1] with
      | none => simp [out]
      | some b =>
        obtain ⟨p1, _⟩ := pair_tab a b (nib_lt _ _ ha1) (nib_lt _ _ hb1)
        simp only [Option.getD_some, Option.isSome_some, if_true]
        rw [if_pos (by omega), p1, unhex_l0 s hb d (i + 2) k (acc ++ [a * 16 + b]) (by omega) (by omega) (by simp; omega)]
        cases unhexL ((bytesOf s).drop (i + 1 + 1)) <;> simp [out]
theorem refunhex_l0 (s : ByteArray) (hb : s.size ≤ 4194304) : ∀ (d i k : Nat) (acc : List Int), i + 2 * d = s.size ∨ i + 2 * d + 1 = s.size → i % 2 = 0 → d + 20 < k → acc.length + d ≤ 4194304 → XH.tappetref01_Unhex.l0 k s acc (i : Int) = some (out acc (unhexL ((bytesOf s).drop i)))
  | 0, i, k + 1, acc, h, he, _, _ => by
    have hl := bytesOf_length s
    rw [XH.tappetref01_Unhex.l0, nextI i (by omega), if_neg (by omega)]
    rcases h with h | h
    · rw [if_pos (by omega), List.drop_eq_nil_of_le (by rw [bytesOf_length]; omega)]
      simp [unhexL, out]
    · have h0 : i < (bytesOf s).length := by omega
      rw [if_neg (by omega), List.drop_eq_getElem_cons h0, List.drop_eq_nil_of_le (by omega)]
      simp [unhexL, out]
  | d + 1, i, k + 1, acc, h, he, hk, ha => by
    have hl := bytesOf_length s
    have h0 : i < (bytesOf s).length := by omega
    have h1 : i + 1 < (bytesOf s).length := by omega
    have b0 := bytes_of s _ (List.getElem_mem h0)
    have b1 := bytes_of s _ (List.getElem_mem h1)
    rw [XH.tappetref01_Unhex.l0, nextI i (by omega), if_pos (by omega), if_pos (by omega), if_pos (by omega), bt_get s i h0, bt_get s (i + 1) h1, nib_r k (by omega) _ b0, nib_r k (by omega) _ b1, Option.bind_some, if_pos (by omega), Option.bind_some, nextI2 i (by omega)]
    rw [List.drop_eq_getElem_cons h0, List.drop_eq_getElem_cons h1]
    unfold unhexL
    cases ha1 : nib (bytesOf s)[i] with
    | none => simp [out]
    | some a =>
      have la := nib_lt _ _ ha1
      cases hb1 : nib (bytesOf s)[i + 1] with
      | none =>
        simp only [Option.getD_some, Option.getD_none]
        rw [if_neg (by omega), if_pos (by omega)]
        rfl
      | some b =>
        have lb := nib_lt _ _ hb1
        obtain ⟨_, p1, _⟩ := pair_tab a b la lb
        simp only [Option.getD_some]
        rw [if_neg (by omega), if_neg (by omega), if_pos (by omega), p1, refunhex_l0 s hb d (i + 2) k (acc ++ [a * 16 + b]) (by omega) (by omega) (by omega) (by simp; omega)]
        cases unhexL ((bytesOf s).drop (i + 1 + 1)) <;> simp [out]
theorem unhex_f (s : ByteArray) (hb : s.size ≤ 4194304) (k : Nat) (hk : s.size + 20 < k) : XH.octet_Unhex.f k s = some (out [] (unhexL (bytesOf s))) := by
  unfold XH.octet_Unhex.f
  by_cases h : s.size % 2 = 0
  · rw [if_pos (by omega)]
    have := unhex_l0 s hb (s.size / 2) 0 k [] (by omega) (by omega) (by simp; omega)
    rw [List.drop_zero] at this
    exact this
  · rw [if_neg (by omega)]
    cases hu : unhexL (bytesOf s) with
    | none => rfl
    | some r =>
      have := unhexL_length _ _ hu
      rw [bytesOf_length] at this
      omega
theorem refunhex_f (s : ByteArray) (hb : s.size ≤ 4194304) (k : Nat) (hk : s.size + 20 < k) : XH.tappetref01_Unhex.f k s = some (out [] (unhexL (bytesOf s))) := by
  have := refunhex_l0 s hb (s.size / 2) 0 k [] (by omega) (by omega) (by omega) (by simp; omega)
  rw [List.drop_zero] at this
  exact this
theorem unhex_hex : ∀ (l : List Int), (∀ x ∈ l, Byte x) → unhexL (hexL l) = some l
  | [], _ => rfl
  | x :: l, h => by
    obtain ⟨_, _, _, _, _, _, t7, t8, _⟩ := byte_tab x (h x (by simp))
    rw [hexL_cons]
    unfold unhexL
    rw [t7, t8, unhex_hex l (fun y hy => h y (by simp [hy]))]
    simp
    omega
theorem hex_unhex : ∀ (cs r : List Int), (∀ x ∈ cs, Byte x) → unhexL cs = some r → hexL r = cs
  | [], r, _, h => by injection h with h; subst h; rfl
  | [_], r, _, h => by cases h
  | c :: d :: l, r, hb, h => by
    unfold unhexL at h
    split at h
    · rename_i a b ha hb'
      obtain ⟨r', h', rfl⟩ := Option.map_eq_some_iff.mp h
      have ih := hex_unhex l r' (fun y hy => hb y (by simp [hy])) h'
      obtain ⟨_, _, p3, p4⟩ := pair_tab a b (nib_lt _ _ ha) (nib_lt _ _ hb')
      rw [hexL_cons, p3, p4, nib_back c a (hb c (by simp)) ha, nib_back d b (hb d (by simp)) hb', ih]
    · cases h
theorem str_bytes (s : ByteArray) : strOfNums (bytesOf s) = s := by
  unfold strOfNums bytesOf
  rw [List.map_map]
  have : (fun n : Int => UInt8.ofNat n.toNat) ∘ (fun b : UInt8 => (b.toNat : Int)) = id := by
    funext b
    simp
  rw [this, List.map_id]
theorem bytes_str (l : List Int) (h : ∀ x ∈ l, Byte x) : bytesOf (strOfNums l) = l := by
  unfold strOfNums bytesOf
  simp only [List.map_map]
  conv => rhs; rw [← List.map_id l]
  apply List.map_congr_left
  intro x hx
  have := h x hx
  unfold Byte at this
  simp
  omega

theorem same_l0 (a : List Int) (hb : a.length < 9223372036854775807) : ∀ (d i k : Nat), i + d = a.length → d < k → tappetref01_Same.l0 k a a (i : Int) = some true
  | 0, i, k + 1, h, _ => by
    rw [tappetref01_Same.l0, if_neg (by omega)]
  | d + 1, i, k + 1, h, hk => by
    rw [tappetref01_Same.l0, if_pos (by omega), if_pos (by omega), if_pos (by omega), if_pos rfl, nextI i (by omega), same_l0 a hb d (i + 1) k (by omega) (by omega)]
theorem same_f (a : List Int) (hb : a.length < 9223372036854775807) (k : Nat) (hk : a.length < k) : tappetref01_Same.f k a a = some true := by
  unfold tappetref01_Same.f
  rw [if_pos rfl]
  exact same_l0 a hb a.length 0 k (by omega) hk

theorem hexes_row (W : World) (A0 : Option Addr) (c0 : Nat) (l0 : List Int) (hr : (Kd.int .u8).C W A0 l0.length l0) (hc : l0.length ≤ c0) (hw : ∀ x ∈ l0, (Lit.int .u8 x).wf = true) (z : l0.length ≤ 1048576) (s : ByteArray) (zs : s.size ≤ 1048576) :
    Calls Try.prog 9 #[.slice A0 l0.length c0, .string s] W fun e w' => e = .returned (.bool true) ∧ Below W.heap.size W w' := by
  have hb : ∀ x ∈ l0, Byte x := by
    intro x hx
    have := hw x hx
    simp [Lit.wf, IntKind.min, IntKind.max, IntKind.signed, IntKind.bits] at this
    unfold Byte
    omega
  have hhb : ∀ x ∈ hexL l0, Byte x := by
    intro x hx
    unfold hexL at hx
    obtain ⟨y, hy, hxy⟩ := List.mem_flatMap.mp hx
    obtain ⟨_, _, _, _, _, _, _, _, t9, t10, t11, t12⟩ := byte_tab y (hb y hy)
    simp at hxy
    rcases hxy with rfl | rfl
    · exact ⟨t9, t10⟩
    · exact ⟨t11, t12⟩
  have hsz : (strOfNums (hexL l0)).size ≤ 4194304 := by
    rw [← bytesOf_length, bytes_str _ hhb, hexL_length]
    omega
  have hz := unhex_f (strOfNums (hexL l0)) hsz (4194304 + 21) (by omega)
  rw [bytes_str _ hhb, unhex_hex l0 hb] at hz
  have hu := unhex_f s (by omega) 4194325 (by omega)
  have hur := refunhex_f s (by omega) 4194325 (by omega)
  cases hx : unhexL (bytesOf s) with
  | none =>
    rw [hx] at hu hur
    exact hexes_walk W A0 c0 l0 hr hc s [] 14 (strOfNums (hexL l0)) 4194325 4194325 1048577 4194325 1048577 true _ hu hur (hex_f l0 hb z _ (by omega)) (refhex_f l0 hb z _ (by omega)) hz (same_f [] (by simp) _ (by simp)) (same_f l0 (by omega) _ (by omega)) (refhex_f [] (by simp) (by simp) _ (by simp)) (by simp) z (by simp)
  | some r =>
    rw [hx] at hu hur
    have hrl := unhexL_length _ _ hx
    rw [bytesOf_length] at hrl
    have hrb := unhexL_byte _ _ hx
    exact hexes_walk W A0 c0 l0 hr hc s r 0 (strOfNums (hexL l0)) 4194325 4194325 1048577 4194325 1048577 true _ hu hur (hex_f l0 hb z _ (by omega)) (refhex_f l0 hb z _ (by omega)) hz (same_f r (by omega) _ (by omega)) (same_f l0 (by omega) _ (by omega)) (refhex_f r hrb (by omega) _ (by omega)) (fun _ => by rw [hex_unhex _ _ (bytes_of s) hx, str_bytes]) z (by omega)

end Go.Proofs.Ytbhlalnpefijkaa.Pure
