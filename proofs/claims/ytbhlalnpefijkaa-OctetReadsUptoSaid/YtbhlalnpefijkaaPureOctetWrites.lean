/- OctetWrites: every number in every length and every text is written as the document says, into memory of its own. -/
import Derived.Test.YtbhlalnpefijkaaHWrites
namespace Go.Proofs.Ytbhlalnpefijkaa.Pure
set_option linter.unusedVariables false
set_option linter.unusedSimpArgs false
open Go.RowKit Go.Proofs.Ytbhlalnpefijkaa.XC Go.Proofs.YtbhlalnpefijkaaW.PrintWords Go.Proofs.YtbhlalnpefijkaaW.PrintLast Go.Proofs.YtbhlalnpefijkaaW.PrintMore

theorem wr_in (n : Int) (h : -9223372036854775808 ≤ n ∧ n ≤ 9223372036854775807) : wrap64 n = n := by unfold wrap64; omega
theorem nextI (i : Nat) (h : i < 9223372036854775807) : wrap64 ((i : Int) + 1) = ((i + 1 : Nat) : Int) := by rw [wr_in _ (by omega)]; rfl
/-! ### numbers -/
theorem number_eq (v n : Int) : ∃ nl ne, octet_Number.f 20 v n = some (nl, ne) ∧ tappetref01_Number.f 20 v n = some (nl, ne) ∧ nl.length ≤ 8 := by
  rcases (by omega : n < 1 ∨ n = 1 ∨ n = 2 ∨ n = 3 ∨ n = 4 ∨ n = 5 ∨ n = 6 ∨ n = 7 ∨ n = 8 ∨ 8 < n) with h | rfl | rfl | rfl | rfl | rfl | rfl | rfl | rfl | h
  · exact ⟨[], 2, by unfold octet_Number.f; rw [if_pos h]; rfl, by unfold tappetref01_Number.f; rw [if_pos h]; rfl, by simp⟩
  · have e1 : octet_Number.f 20 v 1 = octet_Number.j0 20 v 1 (shr .u64 v 8 != 0) := by kernel_rfl
    have e2 : tappetref01_Number.f 20 v 1 = tappetref01_Number.j0 20 v 1 (shr .u64 v 8 != 0) := by kernel_rfl
    rw [e1, e2]
    cases (shr .u64 v 8 != 0)
    · exact ⟨[(shr .u64 v 0) % 256], 0, by kernel_rfl, by kernel_rfl, by simp⟩
    · exact ⟨[], 2, by kernel_rfl, by kernel_rfl, by decide⟩
  · have e1 : octet_Number.f 20 v 2 = octet_Number.j0 20 v 2 (shr .u64 v 16 != 0) := by kernel_rfl
    have e2 : tappetref01_Number.f 20 v 2 = tappetref01_Number.j0 20 v 2 (shr .u64 v 16 != 0) := by kernel_rfl
    rw [e1, e2]
    cases (shr .u64 v 16 != 0)
    · exact ⟨[(shr .u64 v 0) % 256, (shr .u64 v 8) % 256], 0, by kernel_rfl, by kernel_rfl, by simp⟩
    · exact ⟨[], 2, by kernel_rfl, by kernel_rfl, by decide⟩
  · have e1 : octet_Number.f 20 v 3 = octet_Number.j0 20 v 3 (shr .u64 v 24 != 0) := by kernel_rfl
    have e2 : tappetref01_Number.f 20 v 3 = tappetref01_Number.j0 20 v 3 (shr .u64 v 24 != 0) := by kernel_rfl
    rw [e1, e2]
    cases (shr .u64 v 24 != 0)
    · exact ⟨[(shr .u64 v 0) % 256, (shr .u64 v 8) % 256, (shr .u64 v 16) % 256], 0, by kernel_rfl, by kernel_rfl, by simp⟩
    · exact ⟨[], 2, by kernel_rfl, by kernel_rfl, by decide⟩
  · have e1 : octet_Number.f 20 v 4 = octet_Number.j0 20 v 4 (shr .u64 v 32 != 0) := by kernel_rfl
    have e2 : tappetref01_Number.f 20 v 4 = tappetref01_Number.j0 20 v 4 (shr .u64 v 32 != 0) := by kernel_rfl
    rw [e1, e2]
    cases (shr .u64 v 32 != 0)
    · exact ⟨[(shr .u64 v 0) % 256, (shr .u64 v 8) % 256, (shr .u64 v 16) % 256, (shr .u64 v 24) % 256], 0, by kernel_rfl, by kernel_rfl, by simp⟩
    · exact ⟨[], 2, by kernel_rfl, by kernel_rfl, by decide⟩
  · have e1 : octet_Number.f 20 v 5 = octet_Number.j0 20 v 5 (shr .u64 v 40 != 0) := by kernel_rfl
    have e2 : tappetref01_Number.f 20 v 5 = tappetref01_Number.j0 20 v 5 (shr .u64 v 40 != 0) := by kernel_rfl
    rw [e1, e2]
    cases (shr .u64 v 40 != 0)
    · exact ⟨[(shr .u64 v 0) % 256, (shr .u64 v 8) % 256, (shr .u64 v 16) % 256, (shr .u64 v 24) % 256, (shr .u64 v 32) % 256], 0, by kernel_rfl, by kernel_rfl, by simp⟩
    · exact ⟨[], 2, by kernel_rfl, by kernel_rfl, by decide⟩
  · have e1 : octet_Number.f 20 v 6 = octet_Number.j0 20 v 6 (shr .u64 v 48 != 0) := by kernel_rfl
    have e2 : tappetref01_Number.f 20 v 6 = tappetref01_Number.j0 20 v 6 (shr .u64 v 48 != 0) := by kernel_rfl
    rw [e1, e2]
    cases (shr .u64 v 48 != 0)
    · exact ⟨[(shr .u64 v 0) % 256, (shr .u64 v 8) % 256, (shr .u64 v 16) % 256, (shr .u64 v 24) % 256, (shr .u64 v 32) % 256, (shr .u64 v 40) % 256], 0, by kernel_rfl, by kernel_rfl, by simp⟩
    · exact ⟨[], 2, by kernel_rfl, by kernel_rfl, by decide⟩
  · have e1 : octet_Number.f 20 v 7 = octet_Number.j0 20 v 7 (shr .u64 v 56 != 0) := by kernel_rfl
    have e2 : tappetref01_Number.f 20 v 7 = tappetref01_Number.j0 20 v 7 (shr .u64 v 56 != 0) := by kernel_rfl
    rw [e1, e2]
    cases (shr .u64 v 56 != 0)
    · exact ⟨[(shr .u64 v 0) % 256, (shr .u64 v 8) % 256, (shr .u64 v 16) % 256, (shr .u64 v 24) % 256, (shr .u64 v 32) % 256, (shr .u64 v 40) % 256, (shr .u64 v 48) % 256], 0, by kernel_rfl, by kernel_rfl, by simp⟩
    · exact ⟨[], 2, by kernel_rfl, by kernel_rfl, by decide⟩
  · exact ⟨[(shr .u64 v 0) % 256, (shr .u64 v 8) % 256, (shr .u64 v 16) % 256, (shr .u64 v 24) % 256, (shr .u64 v 32) % 256, (shr .u64 v 40) % 256, (shr .u64 v 48) % 256, (shr .u64 v 56) % 256], 0, by kernel_rfl, by kernel_rfl, by simp⟩
  · exact ⟨[], 2, by unfold octet_Number.f; rw [if_neg (by omega), if_pos (by omega)]; rfl, by unfold tappetref01_Number.f; rw [if_neg (by omega), if_pos (by omega)]; rfl, by simp⟩


/-! ### texts -/
theorem bt_eq (s : ByteArray) (i : Nat) (h : i < s.size) : bt s (i : Int) = (s[i].toNat : Int) := by
  unfold bt
  rw [dif_pos (by simpa using h)]
  simp
theorem plain_l0 (s : ByteArray) (hs : s.size < 9223372036854775807) : ∀ (d i k : Nat), i + d = s.size → d < k → (∀ j (hj : j < s.size), j < i → plainC s[j] = true) → tappetref01_Plain.l0 k s (i : Int) = some (plainB s)
  | 0, i, k + 1, h, _, hp => by
    rw [tappetref01_Plain.l0, if_neg (by omega), plainB_end s (fun j hj => hp j hj (by omega))]
  | d + 1, i, k + 1, h, hk, hp => by
    have hi : i < s.size := by omega
    rw [tappetref01_Plain.l0, if_pos (by omega), if_pos (by omega), bt_eq s i hi]
    by_cases h1 : s[i].toNat < 32
    · rw [if_pos (by omega), plainB_false s i hi (by unfold plainC; simp; omega)]
    · by_cases h2 : 126 < s[i].toNat
      · rw [if_neg (by omega), if_pos (by omega), plainB_false s i hi (by unfold plainC; simp; omega)]
      · rw [if_neg (by omega), if_neg (by omega), nextI i (by omega)]
        refine plain_l0 s hs d (i + 1) k (by omega) (by omega) ?_
        intro j hj hji
        rcases Nat.lt_or_ge j i with h3 | h3
        · exact hp j hj h3
        · obtain rfl : j = i := by omega
          unfold plainC
          simp
          omega
theorem plain_f (s : ByteArray) (hs : s.size < 9223372036854775807) (k : Nat) (hk : s.size < k) : tappetref01_Plain.f k s = some (plainB s) :=
  plain_l0 s hs s.size 0 k (by omega) hk (fun j _ h => by omega)
theorem text_eq (s : ByteArray) (hs : s.size < 9223372036854775807) (k : Nat) (hk : s.size < k) : ∃ tl te, octet_Text.f s = some (tl, te) ∧ tappetref01_Text.f k s = some (tl, te) ∧ tl.length ≤ 256 := by
  unfold octet_Text.f tappetref01_Text.f octet_Plain.f
  rw [plain_f s hs k hk]
  simp only [Option.bind_some]
  cases hp : plainB s
  · exact ⟨[], 12, by simp, by simp, by simp⟩
  · have hsz : s.size ≤ 255 := by
      unfold plainB at hp
      simp at hp
      exact hp.2
    refine ⟨[(s.size : Int) % 256] ++ bytesOf s, 0, ?_, ?_, ?_⟩
    · rw [if_pos rfl, if_pos (by simp; omega)]
    · rw [if_pos rfl, if_pos (by simp; omega)]
    · rw [List.length_append, bytesOf_length]
      simp
      omega
theorem rd_at (l : List Int) (i : Nat) (hi : i < l.length) : rd l (i : Int) = l[i] := by
  unfold rd
  rw [Int.toNat_natCast, List.getD_eq_getElem?_getD, List.getElem?_eq_getElem hi]
  rfl
theorem same_l0 (a : List Int) (hb : a.length < 9223372036854775807) : ∀ (d i k : Nat), i + d = a.length → d < k → tappetref01_Same.l0 k a a (i : Int) = some true
  | 0, i, k + 1, h, _ => by
    rw [tappetref01_Same.l0, if_neg (by omega)]
  | d + 1, i, k + 1, h, hk => by
    rw [tappetref01_Same.l0, if_pos (by omega), if_pos (by omega), if_pos (by omega), if_pos rfl, nextI i (by omega), same_l0 a hb d (i + 1) k (by omega) (by omega)]
theorem same_f (a : List Int) (hb : a.length < 9223372036854775807) (k : Nat) (hk : a.length < k) : tappetref01_Same.f k a a = some true := by
  unfold tappetref01_Same.f
  rw [if_pos rfl]
  exact same_l0 a hb a.length 0 k (by omega) hk

theorem writes_row (W : World) (a0 : Int) (w0 : (Lit.int .u64 a0).wf = true) (a1 : Int) (w1 : (Lit.int .i64 a1).wf = true) (s : ByteArray) (z : s.size ≤ 140737488351232) :
    Calls Try.prog 3 #[.int .u64 a0, .int .i64 a1, .string s] W fun e w' => e = .returned (.bool true) ∧ Below W.heap.size W w' := by
  obtain ⟨nl, ne, hn, hnr, hnl⟩ := number_eq a0 a1
  obtain ⟨tl, te, ht, htr, htl⟩ := text_eq s (by omega) (s.size + 1) (by omega)
  exact writes_walk W a0 a1 s nl tl ne te 20 20 (s.size + 1) (s.size + 1) 300 hn hnr ht htr (plain_f s (by omega) _ (by omega)) (same_f nl (by omega) _ (by omega)) (same_f tl (by omega) _ (by omega)) (by omega) (by omega)

end Go.Proofs.Ytbhlalnpefijkaa.Pure
