/- OctetBack: what is written end to end is read again: numbers and texts, in plain Lean; then the row. -/
import Derived.Test.YtbhlalnpefijkaaPureOctetWrites
import Derived.Test.YtbhlalnpefijkaaHBack
namespace Go.Proofs.Ytbhlalnpefijkaa.Pure
set_option linter.unusedVariables false
set_option linter.unusedSimpArgs false
open Go.RowKit Go.Proofs.Ytbhlalnpefijkaa.XC Go.Proofs.Ytbhlalnpefijkaa Go.Proofs.YtbhlalnpefijkaaW.PrintWords Go.Proofs.YtbhlalnpefijkaaW.PrintLast

theorem shr_eq (v : Int) (k : Int) (h0 : 0 ≤ k) (h1 : k < 64) : shr .u64 v k = v / 2 ^ k.toNat := by
  show v / 2 ^ min k.toNat 64 = _
  rw [Nat.min_eq_left (by omega)]
/-- what octet.Number answers, and that it is the number -/
def NumOk (v n : Int) (nl : List Int) (ne : Int) : Prop := nl.length ≤ 8 ∧ (∀ x ∈ nl, 0 ≤ x ∧ x ≤ 255) ∧ (ne = 0 → 1 ≤ n ∧ n ≤ 8 ∧ (nl.length : Int) = n ∧ leVal nl = v)
theorem num_bad (v n : Int) : NumOk v n [] 2 := ⟨by simp, by simp, by simp⟩
theorem num_1 (v : Int) (w0 : 0 ≤ v) (w1 : v < 18446744073709551616) (h : shr .u64 v 8 = 0) : NumOk v 1 [(shr .u64 v 0) % 256] 0 := by
  have e0 : shr .u64 v 0 = v / 1 := shr_eq v 0 (by omega) (by omega)
  rw [show shr .u64 v 8 = v / 256 from shr_eq v 8 (by omega) (by omega)] at h
  rw [e0]
  refine ⟨by simp, fun x hx => ?_, fun _ => ⟨by omega, by omega, by simp, ?_⟩⟩
  · simp only [List.mem_cons, List.not_mem_nil, or_false] at hx
    omega
  · simp only [leVal]
    omega
theorem num_2 (v : Int) (w0 : 0 ≤ v) (w1 : v < 18446744073709551616) (h : shr .u64 v 16 = 0) : NumOk v 2 [(shr .u64 v 0) % 256, (shr .u64 v 8) % 256] 0 := by
  have e0 : shr .u64 v 0 = v / 1 := shr_eq v 0 (by omega) (by omega)
  have e1 : shr .u64 v 8 = v / 256 := shr_eq v 8 (by omega) (by omega)
  rw [show shr .u64 v 16 = v / 65536 from shr_eq v 16 (by omega) (by omega)] at h
  rw [e0, e1]
  refine ⟨by simp, fun x hx => ?_, fun _ => ⟨by omega, by omega, by simp, ?_⟩⟩
  · simp only [List.mem_cons, List.not_mem_nil, or_false] at hx
    omega
  · simp only [leVal]
    omega
theorem num_3 (v : Int) (w0 : 0 ≤ v) (w1 : v < 18446744073709551616) (h : shr .u64 v 24 = 0) : NumOk v 3 [(shr .u64 v 0) % 256, (shr .u64 v 8) % 256, (shr .u64 v 16) % 256] 0 := by
  have e0 : shr .u64 v 0 = v / 1 := shr_eq v 0 (by omega) (by omega)
  have e1 : shr .u64 v 8 = v / 256 := shr_eq v 8 (by omega) (by omega)
  have e2 : shr .u64 v 16 = v / 65536 := shr_eq v 16 (by omega) (by omega)
  rw [show shr .u64 v 24 = v / 16777216 from shr_eq v 24 (by omega) (by omega)] at h
  rw [e0, e1, e2]
  refine ⟨by simp, fun x hx => ?_, fun _ => ⟨by omega, by omega, by simp, ?_⟩⟩
  · simp only [List.mem_cons, List.not_mem_nil, or_false] at hx
    omega
  · simp only [leVal]
    omega
theorem num_4 (v : Int) (w0 : 0 ≤ v) (w1 : v < 18446744073709551616) (h : shr .u64 v 32 = 0) : NumOk v 4 [(shr .u64 v 0) % 256, (shr .u64 v 8) % 256, (shr .u64 v 16) % 256, (shr .u64 v 24) % 256] 0 := by
  have e0 : shr .u64 v 0 = v / 1 := shr_eq v 0 (by omega) (by omega)
  have e1 : shr .u64 v 8 = v / 256 := shr_eq v 8 (by omega) (by omega)
  have e2 : shr .u64 v 16 = v / 65536 := shr_eq v 16 (by omega) (by omega)
  have e3 : shr .u64 v 24 = v / 16777216 := shr_eq v 24 (by omega) (by omega)
  rw [show shr .u64 v 32 = v / 4294967296 from shr_eq v 32 (by omega) (by omega)] at h
  rw [e0, e1, e2, e3]
  refine ⟨by simp, fun x hx => ?_, fun _ => ⟨by omega, by omega, by simp, ?_⟩⟩
  · simp only [List.mem_cons, List.not_mem_nil, or_false] at hx
    omega
  · simp only [leVal]
    omega
theorem num_5 (v : Int) (w0 : 0 ≤ v) (w1 : v < 18446744073709551616) (h : shr .u64 v 40 = 0) : NumOk v 5 [(shr .u64 v 0) % 256, (shr .u64 v 8) % 256, (shr .u64 v 16) % 256, (shr .u64 v 24) % 256, (shr .u64 v 32) % 256] 0 := by
  have e0 : shr .u64 v 0 = v / 1 := shr_eq v 0 (by omega) (by omega)
  have e1 : shr .u64 v 8 = v / 256 := shr_eq v 8 (by omega) (by omega)
  have e2 : shr .u64 v 16 = v / 65536 := shr_eq v 16 (by omega) (by omega)
  have e3 : shr .u64 v 24 = v / 16777216 := shr_eq v 24 (by omega) (by omega)
  have e4 : shr .u64 v 32 = v / 4294967296 := shr_eq v 32 (by omega) (by omega)
  rw [show shr .u64 v 40 = v / 1099511627776 from shr_eq v 40 (by omega) (by omega)] at h
  rw [e0, e1, e2, e3, e4]
  refine ⟨by simp, fun x hx => ?_, fun _ => ⟨by omega, by omega, by simp, ?_⟩⟩
  · simp only [List.mem_cons, List.not_mem_nil, or_false] at hx
    omega
  · simp only [leVal]
    omega
theorem num_6 (v : Int) (w0 : 0 ≤ v) (w1 : v < 18446744073709551616) (h : shr .u64 v 48 = 0) : NumOk v 6 [(shr .u64 v 0) % 256, (shr .u64 v 8) % 256, (shr .u64 v 16) % 256, (shr .u64 v 24) % 256, (shr .u64 v 32) % 256, (shr .u64 v 40) % 256] 0 := by
  have e0 : shr .u64 v 0 = v / 1 := shr_eq v 0 (by omega) (by omega)
  have e1 : shr .u64 v 8 = v / 256 := shr_eq v 8 (by omega) (by omega)
  have e2 : shr .u64 v 16 = v / 65536 := shr_eq v 16 (by omega) (by omega)
  have e3 : shr .u64 v 24 = v / 16777216 := shr_eq v 24 (by omega) (by omega)
  have e4 : shr .u64 v 32 = v / 4294967296 := shr_eq v 32 (by omega) (by omega)
  have e5 : shr .u64 v 40 = v / 1099511627776 := shr_eq v 40 (by omega) (by omega)
  rw [show shr .u64 v 48 = v / 281474976710656 from shr_eq v 48 (by omega) (by omega)] at h
  rw [e0, e1, e2, e3, e4, e5]
  refine ⟨by simp, fun x hx => ?_, fun _ => ⟨by omega, by omega, by simp, ?_⟩⟩
  · simp only [List.mem_cons, List.not_mem_nil, or_false] at hx
    omega
  · simp only [leVal]
    omega
theorem num_7 (v : Int) (w0 : 0 ≤ v) (w1 : v < 18446744073709551616) (h : shr .u64 v 56 = 0) : NumOk v 7 [(shr .u64 v 0) % 256, (shr .u64 v 8) % 256, (shr .u64 v 16) % 256, (shr .u64 v 24) % 256, (shr .u64 v 32) % 256, (shr .u64 v 40) % 256, (shr .u64 v 48) % 256] 0 := by
  have e0 : shr .u64 v 0 = v / 1 := shr_eq v 0 (by omega) (by omega)
  have e1 : shr .u64 v 8 = v / 256 := shr_eq v 8 (by omega) (by omega)
  have e2 : shr .u64 v 16 = v / 65536 := shr_eq v 16 (by omega) (by omega)
  have e3 : shr .u64 v 24 = v / 16777216 := shr_eq v 24 (by omega) (by omega)
  have e4 : shr .u64 v 32 = v / 4294967296 := shr_eq v 32 (by omega) (by omega)
  have e5 : shr .u64 v 40 = v / 1099511627776 := shr_eq v 40 (by omega) (by omega)
  have e6 : shr .u64 v 48 = v / 281474976710656 := shr_eq v 48 (by omega) (by omega)
  rw [show shr .u64 v 56 = v / 72057594037927936 from shr_eq v 56 (by omega) (by omega)] at h
  rw [e0, e1, e2, e3, e4, e5, e6]
  refine ⟨by simp, fun x hx => ?_, fun _ => ⟨by omega, by omega, by simp, ?_⟩⟩
  · simp only [List.mem_cons, List.not_mem_nil, or_false] at hx
    omega
  · simp only [leVal]
    omega
theorem num_8 (v : Int) (w0 : 0 ≤ v) (w1 : v < 18446744073709551616) : NumOk v 8 [(shr .u64 v 0) % 256, (shr .u64 v 8) % 256, (shr .u64 v 16) % 256, (shr .u64 v 24) % 256, (shr .u64 v 32) % 256, (shr .u64 v 40) % 256, (shr .u64 v 48) % 256, (shr .u64 v 56) % 256] 0 := by
  have e0 : shr .u64 v 0 = v / 1 := shr_eq v 0 (by omega) (by omega)
  have e1 : shr .u64 v 8 = v / 256 := shr_eq v 8 (by omega) (by omega)
  have e2 : shr .u64 v 16 = v / 65536 := shr_eq v 16 (by omega) (by omega)
  have e3 : shr .u64 v 24 = v / 16777216 := shr_eq v 24 (by omega) (by omega)
  have e4 : shr .u64 v 32 = v / 4294967296 := shr_eq v 32 (by omega) (by omega)
  have e5 : shr .u64 v 40 = v / 1099511627776 := shr_eq v 40 (by omega) (by omega)
  have e6 : shr .u64 v 48 = v / 281474976710656 := shr_eq v 48 (by omega) (by omega)
  have e7 : shr .u64 v 56 = v / 72057594037927936 := shr_eq v 56 (by omega) (by omega)
  rw [e0, e1, e2, e3, e4, e5, e6, e7]
  refine ⟨by simp, fun x hx => ?_, fun _ => ⟨by omega, by omega, by simp, ?_⟩⟩
  · simp only [List.mem_cons, List.not_mem_nil, or_false] at hx
    omega
  · simp only [leVal]
    omega
theorem number_ok (v n : Int) (w0 : 0 ≤ v) (w1 : v < 18446744073709551616) : ∃ nl ne, octet_Number.f 20 v n = some (nl, ne) ∧ NumOk v n nl ne := by
  rcases (by omega : n < 1 ∨ n = 1 ∨ n = 2 ∨ n = 3 ∨ n = 4 ∨ n = 5 ∨ n = 6 ∨ n = 7 ∨ n = 8 ∨ 8 < n) with h | rfl | rfl | rfl | rfl | rfl | rfl | rfl | rfl | h
  · exact ⟨[], 2, by unfold octet_Number.f; rw [if_pos h]; rfl, num_bad _ _⟩
  · have e1 : octet_Number.f 20 v 1 = octet_Number.j0 20 v 1 (shr .u64 v 8 != 0) := by kernel_rfl
    rw [e1]
    cases h : (shr .u64 v 8 != 0)
    · exact ⟨[(shr .u64 v 0) % 256], 0, by kernel_rfl, num_1 v w0 w1 (by simpa using h)⟩
    · exact ⟨[], 2, by kernel_rfl, num_bad _ _⟩
  · have e1 : octet_Number.f 20 v 2 = octet_Number.j0 20 v 2 (shr .u64 v 16 != 0) := by kernel_rfl
    rw [e1]
    cases h : (shr .u64 v 16 != 0)
    · exact ⟨[(shr .u64 v 0) % 256, (shr .u64 v 8) % 256], 0, by kernel_rfl, num_2 v w0 w1 (by simpa using h)⟩
    · exact ⟨[], 2, by kernel_rfl, num_bad _ _⟩
  · have e1 : octet_Number.f 20 v 3 = octet_Number.j0 20 v 3 (shr .u64 v 24 != 0) := by kernel_rfl
    rw [e1]
    cases h : (shr .u64 v 24 != 0)
    · exact ⟨[(shr .u64 v 0) % 256, (shr .u64 v 8) % 256, (shr .u64 v 16) % 256], 0, by kernel_rfl, num_3 v w0 w1 (by simpa using h)⟩
    · exact ⟨[], 2, by kernel_rfl, num_bad _ _⟩
  · have e1 : octet_Number.f 20 v 4 = octet_Number.j0 20 v 4 (shr .u64 v 32 != 0) := by kernel_rfl
    rw [e1]
    cases h : (shr .u64 v 32 != 0)
    · exact ⟨[(shr .u64 v 0) % 256, (shr .u64 v 8) % 256, (shr .u64 v 16) % 256, (shr .u64 v 24) % 256], 0, by kernel_rfl, num_4 v w0 w1 (by simpa using h)⟩
    · exact ⟨[], 2, by kernel_rfl, num_bad _ _⟩
  · have e1 : octet_Number.f 20 v 5 = octet_Number.j0 20 v 5 (shr .u64 v 40 != 0) := by kernel_rfl
    rw [e1]
    cases h : (shr .u64 v 40 != 0)
    · exact ⟨[(shr .u64 v 0) % 256, (shr .u64 v 8) % 256, (shr .u64 v 16) % 256, (shr .u64 v 24) % 256, (shr .u64 v 32) % 256], 0, by kernel_rfl, num_5 v w0 w1 (by simpa using h)⟩
    · exact ⟨[], 2, by kernel_rfl, num_bad _ _⟩
  · have e1 : octet_Number.f 20 v 6 = octet_Number.j0 20 v 6 (shr .u64 v 48 != 0) := by kernel_rfl
    rw [e1]
    cases h : (shr .u64 v 48 != 0)
    · exact ⟨[(shr .u64 v 0) % 256, (shr .u64 v 8) % 256, (shr .u64 v 16) % 256, (shr .u64 v 24) % 256, (shr .u64 v 32) % 256, (shr .u64 v 40) % 256], 0, by kernel_rfl, num_6 v w0 w1 (by simpa using h)⟩
    · exact ⟨[], 2, by kernel_rfl, num_bad _ _⟩
  · have e1 : octet_Number.f 20 v 7 = octet_Number.j0 20 v 7 (shr .u64 v 56 != 0) := by kernel_rfl
    rw [e1]
    cases h : (shr .u64 v 56 != 0)
    · exact ⟨[(shr .u64 v 0) % 256, (shr .u64 v 8) % 256, (shr .u64 v 16) % 256, (shr .u64 v 24) % 256, (shr .u64 v 32) % 256, (shr .u64 v 40) % 256, (shr .u64 v 48) % 256], 0, by kernel_rfl, num_7 v w0 w1 (by simpa using h)⟩
    · exact ⟨[], 2, by kernel_rfl, num_bad _ _⟩
  · exact ⟨[(shr .u64 v 0) % 256, (shr .u64 v 8) % 256, (shr .u64 v 16) % 256, (shr .u64 v 24) % 256, (shr .u64 v 32) % 256, (shr .u64 v 40) % 256, (shr .u64 v 48) % 256, (shr .u64 v 56) % 256], 0, by kernel_rfl, num_8 v w0 w1⟩
  · exact ⟨[], 2, by unfold octet_Number.f; rw [if_neg (by omega), if_pos (by omega)]; rfl, num_bad _ _⟩

/-- what octet.Text answers, and that it is the text -/
def TxtOk (s : ByteArray) (tl : List Int) (te : Int) : Prop := tl.length ≤ s.size + 1 ∧ (te = 0 → plainB s = true ∧ s.size ≤ 255 ∧ tl = (s.size : Int) :: bytesOf s)
theorem text_ok (s : ByteArray) : ∃ tl te, octet_Text.f s = some (tl, te) ∧ TxtOk s tl te := by
  unfold octet_Text.f octet_Plain.f
  simp only [Option.bind_some]
  cases hp : plainB s
  · exact ⟨[], 12, by simp, by simp, by simp⟩
  · have hsz : s.size ≤ 255 := by
      unfold plainB at hp
      simp at hp
      exact hp.2
    refine ⟨[(s.size : Int) % 256] ++ bytesOf s, 0, ?_, ?_, fun _ => ⟨hp, hsz, ?_⟩⟩
    · rw [if_pos rfl, if_pos (by simp; omega)]
    · rw [List.length_append, bytesOf_length]
      simp
      omega
    · rw [show (s.size : Int) % 256 = s.size by omega]
      rfl
theorem str_bytes (s : ByteArray) : strOfNums (bytesOf s) = s := by
  unfold strOfNums bytesOf
  rw [List.map_map]
  have : (fun n : Int => UInt8.ofNat n.toNat) ∘ (fun b : UInt8 => (b.toNat : Int)) = id := by
    funext b
    simp
  rw [this, List.map_id]
theorem bytes_range (s : ByteArray) : ∀ x ∈ bytesOf s, 0 ≤ x ∧ x ≤ 255 := by
  intro x hx
  unfold bytesOf at hx
  obtain ⟨b, _, rfl⟩ := List.mem_map.mp hx
  have := b.toNat_lt
  omega
theorem numR_back {v n : Int} {nl : List Int} (h : NumOk v n nl 0) (r : List Int) : numR (nl ++ r) n = (v, 0, r) := by
  obtain ⟨h1, h2, h3⟩ := h
  obtain ⟨h4, h5, h6, h7⟩ := h3 rfl
  unfold numR
  rw [if_neg (by omega), if_neg (by rw [List.length_append]; omega)]
  have e : n.toNat = nl.length := by omega
  rw [e, List.take_left, List.drop_left, h7]
theorem textR_back {s : ByteArray} {tl : List Int} (h : TxtOk s tl 0) (r : List Int) : textR (tl ++ r) = (s, 0, r) := by
  obtain ⟨h1, h2⟩ := h
  obtain ⟨h3, h4, rfl⟩ := h2 rfl
  have hl : (bytesOf s).length = s.size := bytesOf_length s
  unfold textR
  simp only [List.cons_append]
  rw [if_neg (by rw [List.length_append]; omega)]
  have e : ((s.size : Int)).toNat = (bytesOf s).length := by omega
  rw [e, List.take_left, List.drop_left, str_bytes, if_pos h3]

/-! ### pieces, as they come in -/
def okPc (p : Pc) : Prop := (Lit.int .u64 p.v).wf = true
def wtPc (p : Pc) : Nat := p.s.size + 5
def mkPc (a : Int × Int × Int × ByteArray) : Pc := ⟨a.1, a.2.1, a.2.2.1, a.2.2.2⟩
theorem opn_piece : Open.Opn Try.prog 45 pcK okPc (fun _ => True) wtPc :=
  Open.Opn.map (Open.Opn.struct Try.underlying45 (by kernel_rfl) (Open.Fld.cons (Open.Opn.int (k := .i64) (by kernel_rfl) (by kernel_rfl)) rfl rfl (Open.Fld.cons (Open.Opn.int (k := .i64) (by kernel_rfl) (by kernel_rfl)) rfl rfl (Open.Fld.cons (Open.Opn.int (k := .u64) (by kernel_rfl) (by kernel_rfl)) rfl rfl (Open.Fld.one (Open.Opn.string (by kernel_rfl) (by kernel_rfl)) rfl)))))
    mkPc pcK rfl (fun w a cs h => by
      obtain ⟨_, _, rfl, rfl, _, _, rfl, rfl, _, _, rfl, rfl, rfl⟩ := h
      rfl) okPc (fun _ => True) wtPc (fun a h => show okPc (mkPc a) from h.2.2.1) (fun _ _ => trivial) (fun a => by simp only [wtPc, mkPc]; omega) (fun _ => by unfold wtPc; omega)
def okPs (l : List Pc) : Prop := ∀ p ∈ l, okPc p
def szPs (l : List Pc) : Prop := l.length * Try.prog.bytesOf 45 ≤ reachBytes ∧ ∀ p ∈ l, True
def wtPs (l : List Pc) : Nat := (l.map wtPc).sum + 1
theorem opn_pieces : Open.Opn Try.prog 43 (Kd.slice 45 pcK) okPs szPs wtPs := Open.Opn.slice 45 opn_piece Try.underlying43 (by kernel_rfl)
theorem wf_u64 {y : Int} (h : (Lit.int .u64 y).wf = true) : 0 ≤ y ∧ y < 18446744073709551616 := by
  simp [Lit.wf, IntKind.min, IntKind.max, IntKind.bits, IntKind.signed] at h
  omega
def numF (v n : Int) : List Int × Int := (octet_Number.f 20 v n).getD ([], 2)
def txtF (s : ByteArray) : List Int × Int := (octet_Text.f s).getD ([], 12)
theorem numF_ok (v n : Int) (w0 : 0 ≤ v) (w1 : v < 18446744073709551616) : octet_Number.f 20 v n = some (numF v n) ∧ NumOk v n (numF v n).1 (numF v n).2 := by
  obtain ⟨nl, ne, h, hk⟩ := number_ok v n w0 w1
  unfold numF
  rw [h]
  exact ⟨rfl, hk⟩
theorem numF_eq (v n : Int) : octet_Number.f 20 v n = some (numF v n) := by
  obtain ⟨nl, ne, h, _⟩ := number_eq v n
  unfold numF
  rw [h]
  rfl
theorem txtF_ok (s : ByteArray) : octet_Text.f s = some (txtF s) ∧ TxtOk s (txtF s).1 (txtF s).2 := by
  obtain ⟨tl, te, h, hk⟩ := text_ok s
  unfold txtF
  rw [h]
  exact ⟨rfl, hk⟩
theorem res_len {p : Pc} (h : okPc p) : (resP numF txtF p).1.length ≤ 2 * wtPc p := by
  obtain ⟨h0, h1⟩ := wf_u64 h
  unfold resP wtPc
  split
  · have := (numF_ok p.v p.n h0 h1).2.1
    omega
  · have := (txtF_ok p.s).2.1
    omega
theorem bytes_len : ∀ l : List Pc, okPs l → (bytesP numF txtF l).length ≤ 2 * (l.map wtPc).sum
  | [], _ => by simp [bytesP]
  | p :: l, h => by
    have h1 := bytes_len l (fun q hq => h q (List.mem_cons_of_mem _ hq))
    have h2 := res_len (h p List.mem_cons_self)
    unfold bytesP at h1 ⊢
    simp only [List.map_cons, List.flatten_cons, List.length_append, List.sum_cons]
    omega
theorem sum_sub {l l' : List Pc} (h : l'.Sublist l) : (l'.map wtPc).sum ≤ (l.map wtPc).sum := by
  induction h with
  | slnil => exact Nat.le_refl _
  | cons a _ ih => simp only [List.map_cons, List.sum_cons]; omega
  | cons_cons a _ ih => simp only [List.map_cons, List.sum_cons]; omega
theorem len_sum : ∀ l : List Pc, l.length ≤ (l.map wtPc).sum
  | [] => Nat.le_refl _
  | p :: l => by
    have := len_sum l
    simp only [List.map_cons, List.sum_cons, List.length_cons, wtPc] at *
    omega
theorem back_row (w : World) (A0 : Option Addr) (c0 : Nat) (ps : List Pc) (hC : pcK.C w A0 ps.length ps) (hc : ps.length ≤ c0) (hok : okPs ps) (hsz : szPs ps) (z : wtPs ps ≤ 1048576) :
    Calls Try.prog 6 #[.slice A0 ps.length c0] w fun e w' => e = .returned (.bool true) ∧ Below w.heap.size w w' := by
  unfold wtPs at z
  have hn := len_sum ps
  have hk : ∀ p ∈ keptP numF txtF ps, okPc p ∧ (resP numF txtF p).2 = 0 := fun p hp => by
    obtain ⟨h1, h2⟩ := List.mem_filter.mp hp
    exact ⟨hok p h1, by simpa using h2⟩
  refine back_walk w A0 c0 ps hC hc (by omega) numF txtF numF_eq (fun p _ => (txtF_ok p.s).1) (fun k => ?_) (fun p hp r => ?_) (fun x hx => ?_)
  · have hs : (keptP numF txtF (ps.take k)).Sublist ps := (List.filter_sublist).trans (List.take_sublist k ps)
    have h1 := bytes_len _ (fun p hp => hok p (hs.subset hp))
    have h2 := sum_sub hs
    omega
  · obtain ⟨h1, h2⟩ := hk p hp
    obtain ⟨h3, h4⟩ := wf_u64 h1
    unfold resP at h2 ⊢
    by_cases c : p.k = 1
    · rw [if_pos c, if_pos c]
      rw [if_pos c] at h2
      have := (numF_ok p.v p.n h3 h4).2
      rw [h2] at this
      exact numR_back this r
    · rw [if_neg c, if_neg c]
      rw [if_neg c] at h2
      have := (txtF_ok p.s).2
      rw [h2] at this
      exact textR_back this r
  · unfold bytesP at hx
    obtain ⟨l, hl, hx⟩ := List.mem_flatten.mp hx
    obtain ⟨p, hp, rfl⟩ := List.mem_map.mp hl
    obtain ⟨h1, h2⟩ := hk p hp
    obtain ⟨h3, h4⟩ := wf_u64 h1
    unfold resP at h2 hx
    by_cases c : p.k = 1
    · rw [if_pos c] at hx
      exact (numF_ok p.v p.n h3 h4).2.2.1 x hx
    · rw [if_neg c] at hx h2
      obtain ⟨_, h5, h6⟩ := (txtF_ok p.s).2.2 h2
      rw [h6] at hx
      rcases List.mem_cons.mp hx with rfl | hx
      · omega
      · exact bytes_range _ x hx
end Go.Proofs.Ytbhlalnpefijkaa.Pure
