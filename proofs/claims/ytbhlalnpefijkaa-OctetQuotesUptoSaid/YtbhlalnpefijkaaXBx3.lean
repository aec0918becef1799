-- WRITTEN BY wip/tools/xprint.py: a program of this session's over the kit's printer, with texts of this session's own among them
import Derived.Test.YtbhlalnpefijkaaXBx0
import Derived.Test.YtbhlalnpefijkaaXBx2
namespace Go.Proofs.Ytbhlalnpefijkaa.XB
open Go.RowKit Go.Proofs.YtbhlalnpefijkaaW.PrintWords Go.Proofs.YtbhlalnpefijkaaW.PrintLast Go.Proofs.YtbhlalnpefijkaaW.PrintMore
attribute [local go_sem] max2_int min2_int max_two min_two max_three min_three max_four min_four   -- for this text's walks alone
set_option linter.unusedVariables false
set_option linter.unusedSimpArgs false

/-! ### octet_Unquote: function 43 -/
/-- a small hex digit's value; 0: it is none -/
def nibV (c : Nat) : Nat := if 48 ≤ c ∧ c ≤ 57 then c - 48 else if 97 ≤ c ∧ c ≤ 102 then c - 87 else 0
/-- the bytes between the quotes, read; none: something lacks -/
def unq : List UInt8 → Option (List Int)
  | [] => some []
  | c :: l =>
    if c.toNat ≠ 92 then (unq l).map fun r => (c.toNat : Int) :: r else
    match l with
    | [] => none
    | d :: l' =>
      if d.toNat ≠ 120 then (unq l').map fun r => (d.toNat : Int) :: r else
      match l' with
      | a :: b :: l'' => (unq l'').map fun r => ((nibV a.toNat * 16 + nibV b.toNat : Nat) : Int) :: r
      | _ => none
/-- what is read so far, and what is still to come -/
def unqAt (t : ByteArray) (j : Nat) (b : List Int) : Prop := (unq (t.toList.drop j)).map (b ++ ·) = unq t.toList
theorem unqAt_start (t : ByteArray) : unqAt t 0 [] := by
  unfold unqAt
  cases h : unq t.toList <;> simp [h]
theorem unqAt_end (t : ByteArray) (j : Nat) (b : List Int) (h : unqAt t j b) (hj : ¬ j < t.size) : unq t.toList = some b := by
  unfold unqAt at h
  rw [List.drop_of_length_le (by rw [toList_eq]; simp; omega)] at h
  simpa [unq] using h.symm
theorem unqAt_plain (t : ByteArray) (j : Nat) (b : List Int) (h : unqAt t j b) (hj : j < t.size) (hc : ¬ t[j].toNat = 92) : unqAt t (j + 1) (b ++ [(t[j].toNat : Int)]) := by
  unfold unqAt at h ⊢
  rw [drop_at t j hj] at h
  rw [← h, unq.eq_def (t[j] :: _)]
  simp only [ne_eq, hc, not_false_eq_true, if_true, Option.map_map]
  congr 1
  funext r
  simp
theorem unqAt_cut (t : ByteArray) (j : Nat) (b : List Int) (h : unqAt t j b) (hj : j + 1 = t.size) (hc : t[j].toNat = 92) : unq t.toList = none := by
  unfold unqAt at h
  rw [drop_at t j (by omega), List.drop_of_length_le (by rw [toList_eq]; simp; omega)] at h
  rw [← h, unq.eq_def]
  simp [hc]
theorem unqAt_esc (t : ByteArray) (j : Nat) (b : List Int) (h : unqAt t j b) (hj : j + 1 < t.size) (hc : t[j].toNat = 92) (hd : ¬ t[j + 1].toNat = 120) : unqAt t (j + 2) (b ++ [(t[j + 1].toNat : Int)]) := by
  unfold unqAt at h ⊢
  rw [drop_at t j (by omega), drop_at t (j + 1) hj] at h
  rw [← h, unq.eq_def (t[j] :: _)]
  simp only [ne_eq, hc, not_true_eq_false, if_false, hd, not_false_eq_true, if_true, Option.map_map]
  congr 1
  funext r
  simp
theorem unqAt_short (t : ByteArray) (j : Nat) (b : List Int) (h : unqAt t j b) (hj : j + 1 < t.size) (hj2 : t.size ≤ j + 3) (hc : t[j].toNat = 92) (hd : t[j + 1].toNat = 120) : unq t.toList = none := by
  unfold unqAt at h
  rw [drop_at t j (by omega), drop_at t (j + 1) hj] at h
  rw [← h, unq.eq_def]
  simp only [ne_eq, hc, not_true_eq_false, if_false, hd]
  have hl : (List.drop (j + 1 + 1) t.toList).length ≤ 1 := by rw [List.length_drop, toList_eq]; simp; omega
  rcases hh : List.drop (j + 1 + 1) t.toList with _ | ⟨a, _ | ⟨b, l⟩⟩
  · simp
  · simp
  · rw [hh] at hl; simp at hl
theorem unqAt_hex (t : ByteArray) (j : Nat) (b : List Int) (h : unqAt t j b) (hj : j + 3 < t.size) (hc : t[j].toNat = 92) (hd : t[j + 1].toNat = 120) :
    unqAt t (j + 4) (b ++ [((nibV t[j + 2].toNat * 16 + nibV t[j + 3].toNat : Nat) : Int)]) := by
  unfold unqAt at h ⊢
  rw [drop_at t j (by omega), drop_at t (j + 1) (by omega), drop_at t (j + 1 + 1) (by omega), drop_at t (j + 1 + 1 + 1) (by omega)] at h
  rw [← h, unq.eq_def (t[j] :: _)]
  simp only [ne_eq, hc, not_true_eq_false, if_false, hd, Option.map_map]
  congr 1
  funext r
  simp

theorem nibV_dig (c : Nat) (h1 : 48 ≤ c) (h2 : c ≤ 57) : nibV c = c - 48 := by unfold nibV; rw [if_pos ⟨h1, h2⟩]
theorem nibV_let (c : Nat) (h1 : 97 ≤ c) (h2 : c ≤ 102) : nibV c = c - 87 := by unfold nibV; rw [if_neg (by omega), if_pos ⟨h1, h2⟩]
theorem nibV_no (c : Nat) (h1 : ¬ (48 ≤ c ∧ c ≤ 57)) (h2 : ¬ (97 ≤ c ∧ c ≤ 102)) : nibV c = 0 := by unfold nibV; rw [if_neg h1, if_neg h2]
theorem nibV_lt (c : Nat) : nibV c ≤ 15 := by
  unfold nibV
  split
  · omega
  · split <;> omega
theorem nib_f (c : UInt8) : ∃ r2, octet_nibble.f 2 (c.toNat : Int) = some ((nibV c.toNat : Int), r2) := by
  have := c.toNat_lt
  unfold octet_nibble.f
  by_cases h1 : 48 ≤ c.toNat
  · rw [if_pos (by omega)]
    simp only [octet_nibble.j0]
    by_cases h2 : c.toNat ≤ 57
    · rw [if_pos (decide_eq_true (by omega)), nibV_dig _ h1 h2]
      exact ⟨true, by congr 2; omega⟩
    · rw [if_neg (by rw [decide_eq_true_iff]; omega)]
      by_cases h3 : 97 ≤ c.toNat
      · rw [if_pos (by omega)]
        by_cases h4 : c.toNat ≤ 102
        · rw [if_pos (by omega), nibV_let _ h3 h4]
          exact ⟨true, by congr 2; omega⟩
        · rw [if_neg (by omega), nibV_no _ (by omega) (by omega)]
          exact ⟨false, rfl⟩
      · rw [if_neg (by omega), nibV_no _ (by omega) (by omega)]
        exact ⟨false, rfl⟩
  · rw [if_neg (by omega), nibV_no _ (by omega) (by omega)]
    simp only [octet_nibble.j0]
    rw [if_neg (by simp), if_neg (by omega)]
    exact ⟨false, rfl⟩

theorem unq_bad1 (s : ByteArray) (w : World) (h : s.size < 2) :
    Calls Try.prog 43 #[.string s] w fun e w' => e = .returned (.tuple #[.string ⟨#[]⟩, .int .i64 15]) ∧ Below w.heap.size w w' := by
  have h1 : decide ((s.size : Int) < 2) = true := decide_eq_true (by omega)
  go_enter Try.func43, Try.ntmps43
  go_wp2
  go_ret2
  exact ⟨rfl, Below.refl _ _⟩
theorem unq_bad2 (s : ByteArray) (w : World) (h : 2 ≤ s.size) (h0 : ¬ s[0].toNat = 34) :
    Calls Try.prog 43 #[.string s] w fun e w' => e = .returned (.tuple #[.string ⟨#[]⟩, .int .i64 15]) ∧ Below w.heap.size w w' := by
  have h1 : decide ((s.size : Int) < 2) = false := decide_eq_false (by omega)
  have h2 : ((s[0].toNat : Int) != 34) = true := bne_iff_ne.2 (by omega)
  have h6 : 0 < s.size := by omega
  go_enter Try.func43, Try.ntmps43
  go_wp2
  go_ret2
  exact ⟨rfl, Below.refl _ _⟩
theorem unq_bad3 (s : ByteArray) (w : World) (h : 2 ≤ s.size) (hs : s.size ≤ 140737488351232) (h0 : s[0].toNat = 34) (h3 : ¬ s[s.size - 1].toNat = 34) :
    Calls Try.prog 43 #[.string s] w fun e w' => e = .returned (.tuple #[.string ⟨#[]⟩, .int .i64 15]) ∧ Below w.heap.size w w' := by
  have h1 : decide ((s.size : Int) < 2) = false := decide_eq_false (by omega)
  have h2 : ((s[0].toNat : Int) != 34) = false := by simp [h0]
  have h4 : ((s[s.size - 1].toNat : Int) != 34) = true := bne_iff_ne.2 (by omega)
  have h6 : 0 < s.size := by omega
  have H0 := Lib.hid h0
  clear h0
  go_enter Try.func43, Try.ntmps43
  go_wp2
  go_ret2
  exact ⟨rfl, Below.refl _ _⟩

theorem hex_or (a b : Nat) (ha : a ≤ 15) (hb : b ≤ 15) : ∃ x : Int, ((a * 16 + b : Nat) : Int) = x ∧ bits .or .u8 ((a : Int) * 16) (b : Int) = x := by
  refine ⟨_, rfl, ?_⟩
  rw [show (a : Int) * 16 = ((a * 16 : Nat) : Int) from by omega, u8_or_nat _ _ (by omega) (by omega)]
  have := Nat.two_pow_add_eq_or_of_lt (i := 4) (b := b) (by omega) a
  rw [show 2 ^ 4 * a = a * 16 from by omega] at this
  rw [← this]
theorem cut_inner (s : ByteArray) (h : 2 ≤ s.size) (W : World) : (Instr.slice 9 (.string s) (some (.int .i64 1)) (some (.int .i64 ((s.size : Int) - 1))) none).run Try.prog W = .ok (.string (s.extract 1 (s.size - 1))) W := by
  rw [run_slice_string_if W 9 s .i64 .i64 1 ((s.size : Int) - 1) Try.underlying9, if_pos (by omega), if_pos (by omega)]
  congr 3
  omega
set_option maxRecDepth 1000000 in
set_option maxHeartbeats 4000000 in
theorem unq_loop (s : ByteArray) (w : World) (h : 2 ≤ s.size) (hs : s.size ≤ 140737488351232) (h0 : s[0].toNat = 34) (h3 : s[s.size - 1].toNat = 34) (R : ByteArray × Int) (t : ByteArray) (ht : s.extract 1 (s.size - 1) = t) (hts : t.size + 2 = s.size)
    (hnone : unq t.toList = none → R = (⟨#[]⟩, 15)) (hsome : ∀ b, unq t.toList = some b → ∃ k q, octet_Quote.f k (strOfNums b) = some q ∧ R = if q.toList = s.toList then (strOfNums b, 0) else (⟨#[]⟩, 15)) :
    Calls Try.prog 43 #[.string s] w fun e w' => e = .returned (.tuple #[.string R.1, .int .i64 R.2]) ∧ Below w.heap.size w w' := by
  have h1 : decide ((s.size : Int) < 2) = false := decide_eq_false (by omega)
  have h2 : ((s[0].toNat : Int) != 34) = false := by simp [h0]
  have h4 : ((s[s.size - 1].toNat : Int) != 34) = false := by simp [h3]
  have h6 : 0 < s.size := by omega
  have HN := Lib.hid hnone
  have HS := Lib.hid hsome
  have HTS := Lib.hid hts
  have hsl := fun W => cut_inner s h W
  rw [ht] at hsl
  have hts1 : t.size ≤ 140737488351232 := by omega
  clear h0 h3 hnone hsome
  have hts2 := HTS
  go_enter Try.func43, Try.ntmps43
  go_wp2
  clear hts h1 h2 h4 hsl
  go_loopw [5, 6] (fun v i w' => ∃ (j : Nat) (b : List Int), i = .int .i64 j ∧ j ≤ t.size ∧ b.length ≤ j ∧ Aside0 ((Kd.int .u8).R 5 w' w.heap.size (fun _ => True) v b) ∧ Aside0 (Below w.heap.size w w') ∧ Hid (unqAt t j b)) (fun _ i _ => t.size - (intOf i).toNat)
  case atStart => exact ⟨0, [], rfl, by omega, by simp, ⟨Kd.R_nil _ _ _ _ _⟩, ⟨Below.refl _ _⟩, Lib.hid (unqAt_start t)⟩
  case round =>
    obtain ⟨j, b, rfl, hj, hb, HO, HB, hu⟩ := hrel
    by_cases hlt : j < t.size
    · by_cases hc : t[j].toNat = 92
      · have hc' : ((t[j].toNat : Int) != 92) = false := by simp [hc]
        by_cases hlt1 : j + 1 < t.size
        · by_cases hx : t[j + 1].toNat = 120
          · by_cases hlt3 : j + 3 < t.size
            · have HU := Lib.hid (unqAt_hex t j b hu.out hlt3 hc hx)
              have hx' : ((t[j + 1].toNat : Int) != 120) = false := by simp [hx]
              have hl3 : decide ((j : Int) + 1 + 2 < t.size) = true := decide_eq_true (by omega)
              obtain ⟨r1, N1⟩ := nib_f t[j + 2]
              obtain ⟨r2, N2⟩ := nib_f t[j + 3]
              have n1 := nibV_lt t[j + 2].toNat
              have n2 := nibV_lt t[j + 3].toNat
              obtain ⟨x, hx0, hor⟩ := hex_or (nibV t[j + 2].toNat) (nibV t[j + 3].toNat) n1 n2
              rw [hx0] at HU
              clear hx0
              have HN1 := Lib.hid N1
              have HN2 := Lib.hid N2
              clear hc hx N1 N2
              go_wp2_with fail
              refine (octet_nibble.calls 2 _ _ _ _ HN1.out).mono ?_
              rintro e w' ⟨rfl, ⟨nd, rfl⟩⟩
              go_wp2_with fail
              refine (octet_nibble.calls 2 _ _ _ _ HN2.out).mono ?_
              rintro e w' ⟨rfl, ⟨nd2, rfl⟩⟩
              go_wp2_with (at_builtin; refine Kd.R_append_row (w0 := w) (Value.int .u8) (0 : Int) w.heap.size rfl _ _ 23 5 (.int .u8 0) 1 rfl (by kernel_rfl) rd_info5 rfl (by omega) _ b [x] (some ⟨wr.heap.size, 0, none⟩) 1 1 (fun _ => True) rfl rfl (fun _ _ => trivial) ?hr (one_src _ x) ?hb2 ?hz ?hl ?_; (case hr => (with_reducible repeat (first | apply Kd.R_alloc | apply Kd.R_drewN | apply Kd.R_drew)); exact HO.out); (case hb2 => exact (below_drewN HB.out _).alloc HB.out.size _); (case hz => rw [World.size_alloc]; exact Nat.le_succ_of_le HB.out.size); (case hl => omega); intro v1 w1 HR1 HB1 HG HA; have HO1 := Aside0.mk HR1; have HB2 := Aside0.mk HB1; clear HR1 HB1 HG HA)
              go_roundw
              case rel => exact ⟨j + 4, b ++ [x], by go_num, by omega, by simp; omega, HO1, HB2, HU⟩
              case measure => simp [intOf]; omega
            · have HU := Lib.hid (HN.out (unqAt_short t j b hu.out hlt1 (by omega) hc hx))
              have hx' : ((t[j + 1].toNat : Int) != 120) = false := by simp [hx]
              have hl3 : decide ((j : Int) + 1 + 2 < t.size) = false := decide_eq_false (by omega)
              clear hc hx
              go_wp2_with fail
              go_ret2
              exact ⟨by rw [HU.out]; rfl, HB.out⟩
          · have HU := Lib.hid (unqAt_esc t j b hu.out hlt1 hc hx)
            have hx' : ((t[j + 1].toNat : Int) != 120) = true := bne_iff_ne.2 (by omega)
            clear hc hx
            go_wp2_with (at_builtin; refine Kd.R_append_row (w0 := w) (Value.int .u8) (0 : Int) w.heap.size rfl _ _ 23 5 (.int .u8 0) 1 rfl (by kernel_rfl) rd_info5 rfl (by omega) _ b [(t[j + 1].toNat : Int)] (some ⟨wr.heap.size, 0, none⟩) 1 1 (fun _ => True) rfl rfl (fun _ _ => trivial) (Kd.R_alloc HO.out _) (one_src wr _) (HB.out.alloc HB.out.size _) ?hz ?hl ?_; (case hz => rw [World.size_alloc]; exact Nat.le_succ_of_le HB.out.size); (case hl => omega); intro v1 w1 HR1 HB1 HG HA; have HO1 := Aside0.mk HR1; have HB2 := Aside0.mk HB1; clear HR1 HB1 HG HA)
            go_roundw
            case rel => exact ⟨j + 2, b ++ [(t[j + 1].toNat : Int)], by go_num, by omega, by simp; omega, HO1, HB2, HU⟩
            case measure => simp [intOf]; omega
        · have HU := Lib.hid (HN.out (unqAt_cut t j b hu.out (by omega) hc))
          have hl1 : decide ((j : Int) + 1 < t.size) = false := decide_eq_false (by omega)
          have hl3 : decide ((j : Int) + 1 + 2 < t.size) = false := decide_eq_false (by omega)
          clear hc
          go_wp2_with fail
          go_ret2
          exact ⟨by rw [HU.out]; rfl, HB.out⟩
      · have hc' : ((t[j].toNat : Int) != 92) = true := bne_iff_ne.2 (by omega)
        have HU := Lib.hid (unqAt_plain t j b hu.out hlt hc)
        clear hc
        go_wp2_with (at_builtin; refine Kd.R_append_row (w0 := w) (Value.int .u8) (0 : Int) w.heap.size rfl _ _ 23 5 (.int .u8 0) 1 rfl (by kernel_rfl) rd_info5 rfl (by omega) _ b [(t[j].toNat : Int)] (some ⟨wr.heap.size, 0, none⟩) 1 1 (fun _ => True) rfl rfl (fun _ _ => trivial) (Kd.R_alloc HO.out _) (one_src wr _) (HB.out.alloc HB.out.size _) ?hz ?hl ?_; (case hz => rw [World.size_alloc]; exact Nat.le_succ_of_le HB.out.size); (case hl => omega); intro v1 w1 HR1 HB1 HG HA; have HO1 := Aside0.mk HR1; have HB2 := Aside0.mk HB1; clear HR1 HB1 HG HA)
        go_roundw
        case rel => exact ⟨j + 1, b ++ [(t[j].toNat : Int)], by go_num, by omega, by simp; omega, HO1, HB2, HU⟩
        case measure => simp [intOf]; omega
    · have HE := unqAt_end t j b hu.out hlt
      obtain ⟨k, q, hq, hR⟩ := HS.out b HE
      have HQ := Lib.hid hq
      have HR := Lib.hid hR
      clear hq hR HE
      obtain ⟨A1, c1, e1, hc1, C1⟩ := Kd.R_reads HO.out
      subst e1
      have hcv := Kd.C_string (P := Try.prog) (src := 23) (dst := 9) (e := 5) (c := c1) (by kernel_rfl) (by kernel_rfl) (by kernel_rfl) C1
      have HC := Lib.hid C1
      clear C1
      go_wp2_with fail
      refine (octet_Quote.calls k _ _ _ HQ.out).mono ?_
      rintro e w' ⟨rfl, B3⟩
      have hcv2 := Kd.C_string (P := Try.prog) (src := 23) (dst := 9) (e := 5) (c := c1) (by kernel_rfl) (by kernel_rfl) (by kernel_rfl) (Kd.C_below HC.out B3)
      by_cases hqs : q.toList = s.toList
      · have HF := Lib.hid (HR.out.trans (if_pos hqs))
        have hq' : (q.toList == s.toList) = true := by simp [hqs]
        have HQS := Lib.hid hqs
        clear hqs
        go_wp2_with fail
        go_ret2
        exact ⟨by rw [HF.out]; rfl, HB.out.trans (B3.mono HB.out.size)⟩
      · have HF := Lib.hid (HR.out.trans (if_neg hqs))
        have hq' : (q.toList == s.toList) = false := by simp [hqs]
        clear hqs
        go_wp2_with fail
        go_ret2
        exact ⟨by rw [HF.out]; rfl, HB.out.trans (B3.mono HB.out.size)⟩


/-! ### what Quote writes -/
def hx (n : Nat) : UInt8 := UInt8.ofNat (if n < 10 then 48 + n else 87 + n)
def qc (c : UInt8) : List UInt8 := if c.toNat = 34 ∨ c.toNat = 92 then [92, c] else if 32 ≤ c.toNat ∧ c.toNat ≤ 126 then [c] else [92, 120, hx (c.toNat / 16), hx (c.toNat % 16)]
def quB (l : List UInt8) : List UInt8 := 34 :: l.flatMap qc ++ [34]
def quP (s : ByteArray) : ByteArray := ⟨(quB s.toList).toArray⟩
def ints (l : List UInt8) : List Int := l.map fun c => (c.toNat : Int)
theorem ints_str (l : List UInt8) : strOfNums (ints l) = ⟨l.toArray⟩ := by
  unfold strOfNums ints
  congr 2
  rw [List.map_map]
  conv => rhs; rw [← List.map_id l]
  congr 1
  funext c
  simp
theorem qc_length (c : UInt8) : (qc c).length ≤ 4 := by
  unfold qc
  split
  · simp
  · split <;> simp
theorem flat_length (l : List UInt8) : (l.flatMap qc).length ≤ 4 * l.length := by
  induction l with
  | nil => simp
  | cons c l ih =>
    have := qc_length c
    simp only [List.flatMap_cons, List.length_append, List.length_cons]
    omega
theorem hexd (v : Nat) (h : v < 16) : bt (⟨#[48, 49, 50, 51, 52, 53, 54, 55, 56, 57, 97, 98, 99, 100, 101, 102]⟩ : ByteArray) (v : Int) = ((hx v).toNat : Int) := by
  have : ∀ v : Fin 16, bt (⟨#[48, 49, 50, 51, 52, 53, 54, 55, 56, 57, 97, 98, 99, 100, 101, 102]⟩ : ByteArray) ((v.val : Nat) : Int) = ((hx v.val).toNat : Int) := by decide +kernel
  exact this ⟨v, h⟩
theorem bt_at_ (s : ByteArray) (i : Nat) (h : i < s.size) : bt s (i : Int) = (s[i].toNat : Int) := by
  unfold bt
  rw [dif_pos (by simpa using h)]
  simp
theorem quote_l (s : ByteArray) (hs : s.size ≤ 16777216) (m : Nat) : ∀ (k i : Nat) (out : List UInt8), i + m = s.size → 2 * m + 1 ≤ k → out.length ≤ 4 * i + 1 →
    octet_Quote.l0 k s (ints out) s.size i = some ⟨(out ++ (s.toList.drop i).flatMap qc ++ [34]).toArray⟩ := by
  induction m with
  | zero =>
    intro k i out hi hk ho
    obtain ⟨k, rfl⟩ : ∃ e, k = e + 1 := ⟨k - 1, by omega⟩
    have hl : (ints out).length = out.length := by simp [ints]
    simp only [octet_Quote.l0]
    rw [if_neg (by omega), if_pos (by omega), List.drop_of_length_le (by rw [toList_eq]; simp; omega)]
    rw [show ints out ++ [34] = ints (out ++ [34]) from by simp [ints], ints_str]
    simp
  | succ m ih =>
    intro k i out hi hk ho
    obtain ⟨k, rfl⟩ : ∃ e, k = e + 2 := ⟨k - 2, by omega⟩
    have hlt : i < s.size := by omega
    have hc := s[i].toNat_lt
    have hl : (ints out).length = out.length := by simp [ints]
    have e3 : wrap64 ((i : Int) + 1) = ((i + 1 : Nat) : Int) := by unfold wrap64; omega
    have e15 : bits .and .u8 (s[i].toNat : Int) 15 = ((s[i].toNat % 16 : Nat) : Int) := by rw [u8_and15 (x := (s[i].toNat : Int)) (by omega) (by omega)]; omega
    have e16 : (s[i].toNat : Int) / 16 = ((s[i].toNat / 16 : Nat) : Int) := by omega
    have step : ∀ q : List UInt8, qc s[i] = q → q.length ≤ 4 → octet_Quote.l0 k s (ints (out ++ q)) s.size ((i + 1 : Nat) : Int) = some ⟨(out ++ (s.toList.drop i).flatMap qc ++ [34]).toArray⟩ := by
      intro q hq hq4
      rw [ih k (i + 1) (out ++ q) (by omega) (by omega) (by rw [List.length_append]; omega), drop_at s i hlt, List.flatMap_cons, hq]
      simp only [List.append_assoc]
    simp only [octet_Quote.l0]
    rw [if_pos (by omega), if_pos (by omega), if_pos (by omega), bt_at_ s i hlt]
    by_cases h34 : s[i].toNat = 34
    · rw [if_pos (by omega)]
      simp only [octet_Quote.j1, if_true, Option.bind_some]
      rw [if_pos (by simp; omega), e3, ← step [92, s[i]] (by unfold qc; rw [if_pos (.inl h34)]) (by simp)]
      simp [ints]
    · rw [if_neg (by omega)]
      by_cases h92 : s[i].toNat = 92
      · simp only [octet_Quote.j1]
        rw [if_pos (by simp [h92])]
        simp only [Option.bind_some]
        rw [if_pos (by simp; omega), e3, ← step [92, s[i]] (by unfold qc; rw [if_pos (.inr h92)]) (by simp)]
        simp [ints]
      · simp only [octet_Quote.j1]
        rw [if_neg (by simp; omega)]
        have hno : ¬ (s[i].toNat = 34 ∨ s[i].toNat = 92) := by omega
        have hexes : ¬ (32 ≤ s[i].toNat ∧ s[i].toNat ≤ 126) → (if 0 ≤ (s[i].toNat : Int) / 16 then if (s[i].toNat : Int) / 16 < 16 then if 0 ≤ bits .and .u8 (s[i].toNat : Int) 15 then if bits .and .u8 (s[i].toNat : Int) 15 < 16 then
            ((some (([92, 120, bt (⟨#[48, 49, 50, 51, 52, 53, 54, 55, 56, 57, 97, 98, 99, 100, 101, 102]⟩ : ByteArray) ((s[i].toNat : Int) / 16), bt (⟨#[48, 49, 50, 51, 52, 53, 54, 55, 56, 57, 97, 98, 99, 100, 101, 102]⟩ : ByteArray) (bits .and .u8 (s[i].toNat : Int) 15)] : List Int) : List Int)).bind fun y => if (ints out).length + y.length < 140737488355328 then octet_Quote.l0 k s (ints out ++ y) s.size (wrap64 ((i : Int) + 1)) else none) else none else none else none else none) = some ⟨(out ++ (s.toList.drop i).flatMap qc ++ [34]).toArray⟩ := by
          intro hp
          rw [e15, e16, if_pos (by omega), if_pos (by omega), if_pos (by omega), if_pos (by omega), hexd _ (by omega), hexd _ (by omega)]
          simp only [Option.bind_some]
          rw [if_pos (by simp; omega), e3, ← step [92, 120, hx (s[i].toNat / 16), hx (s[i].toNat % 16)] (by unfold qc; rw [if_neg hno, if_neg hp]) (by simp)]
          simp [ints]
        by_cases h32 : 32 ≤ s[i].toNat
        · rw [if_pos (by omega)]
          by_cases h126 : s[i].toNat ≤ 126
          · rw [if_pos (by omega), if_pos (by omega), e3, ← step [s[i]] (by unfold qc; rw [if_neg hno, if_pos ⟨h32, h126⟩]) (by simp)]
            simp [ints]
          · rw [if_neg (by omega)]
            exact hexes (by omega)
        · rw [if_neg (by omega)]
          exact hexes (by omega)
theorem quote_f (s : ByteArray) (hs : s.size ≤ 16777216) (k : Nat) (hk : 2 * s.size + 1 ≤ k) : octet_Quote.f k s = some (quP s) := by
  unfold octet_Quote.f
  have := quote_l s hs s.size k 0 [34] (by omega) hk (by simp)
  rw [show ints [34] = [34] from rfl] at this
  rw [show ((0 : Nat) : Int) = 0 from rfl] at this
  rw [this]
  rfl

/-! ### Unquote -/
def innerP (s : ByteArray) : ByteArray := s.extract 1 (s.size - 1)
def unqR (s : ByteArray) (o : Option (List Int)) : ByteArray × Int :=
  match o with
  | none => (⟨#[]⟩, 15)
  | some b => if (quP (strOfNums b)).toList = s.toList then (strOfNums b, 0) else (⟨#[]⟩, 15)
def unqP (s : ByteArray) : ByteArray × Int :=
  if 2 ≤ s.size then (if bt s 0 = 34 then (if bt s ((s.size - 1 : Nat) : Int) = 34 then unqR s (unq (innerP s).toList) else (⟨#[]⟩, 15)) else (⟨#[]⟩, 15)) else (⟨#[]⟩, 15)
theorem unq_length (n : Nat) : ∀ (l : List UInt8) (b : List Int), l.length ≤ n → unq l = some b → b.length ≤ l.length := by
  induction n with
  | zero =>
    intro l b hl h
    obtain rfl : l = [] := List.eq_nil_of_length_eq_zero (by omega)
    simp [unq] at h
    subst h
    simp
  | succ n ih =>
    intro l b hl h
    rcases l with _ | ⟨c, l⟩
    · simp [unq] at h; subst h; simp
    · rw [unq.eq_def] at h
      simp only at h
      split at h
      · obtain ⟨r, hr, rfl⟩ := Option.map_eq_some_iff.1 h
        have := ih l r (by simp at hl; omega) hr
        simp; omega
      · rcases l with _ | ⟨d, l⟩
        · cases h
        · simp only at h
          split at h
          · obtain ⟨r, hr, rfl⟩ := Option.map_eq_some_iff.1 h
            have := ih l r (by simp at hl; omega) hr
            simp; omega
          · rcases l with _ | ⟨x, _ | ⟨y, l⟩⟩
            · cases h
            · cases h
            · obtain ⟨r, hr, rfl⟩ := Option.map_eq_some_iff.1 h
              have := ih l r (by simp at hl; omega) hr
              simp; omega
def octet_Unquote.f (a0 : ByteArray) : Option (ByteArray × Int) := if a0.size ≤ 16777216 then some (unqP a0) else none
theorem octet_Unquote.calls (a0 : ByteArray) (r1 : ByteArray) (r2 : Int) (w : World) (h : octet_Unquote.f a0 = some (r1, r2)) :
    Calls Try.prog 43 #[.string a0] w fun e w' => e = .returned (.tuple #[.string r1, .int .i64 r2]) ∧ Below w.heap.size w w' := by
  unfold octet_Unquote.f at h
  by_cases hs : a0.size ≤ 16777216
  · rw [if_pos hs] at h
    have h := Option.some.inj h
    unfold unqP at h
    by_cases h2 : 2 ≤ a0.size
    · rw [if_pos h2] at h
      have b0 := bt_at_ a0 0 (by omega)
      have b1 := bt_at_ a0 (a0.size - 1) (by omega)
      rw [show ((0 : Nat) : Int) = 0 from rfl] at b0
      rw [b0, b1] at h
      by_cases c0 : a0[0].toNat = 34
      · rw [if_pos (by omega)] at h
        by_cases c1 : a0[a0.size - 1].toNat = 34
        · rw [if_pos (by omega)] at h
          have hsz : (innerP a0).size + 2 = a0.size := by unfold innerP; rw [ByteArray.size_extract]; omega
          refine unq_loop a0 w h2 (by omega) c0 c1 (r1, r2) (innerP a0) rfl hsz (fun hn => ?_) (fun b hb => ?_)
          · rw [hn] at h; exact h.symm
          · rw [hb] at h
            have hl := unq_length _ _ b (Nat.le_refl _) hb
            rw [toList_eq] at hl
            simp at hl
            refine ⟨_, _, quote_f (strOfNums b) (by rw [strOfNums_size]; omega) _ (Nat.le_refl _), h.symm⟩
        · rw [if_neg (by omega)] at h
          have := unq_bad3 a0 w h2 (by omega) c0 c1
          obtain ⟨rfl, rfl⟩ := Prod.mk.inj h
          exact this
      · rw [if_neg (by omega)] at h
        have := unq_bad2 a0 w h2 c0
        obtain ⟨rfl, rfl⟩ := Prod.mk.inj h
        exact this
    · rw [if_neg h2] at h
      have := unq_bad1 a0 w (by omega)
      obtain ⟨rfl, rfl⟩ := Prod.mk.inj h
      exact this
  · rw [if_neg hs] at h; cases h

/-! ### tappetref01_digit: function 51 -/
def tappetref01_digit.f (a0 : Int) : Option (Int) := if a0 < 10 then (some ((48 + a0) % 256)) else (some ((((97 + a0) % 256) - 10) % 256))
set_option maxHeartbeats 8000000 in
set_option maxRecDepth 100000 in
theorem tappetref01_digit.calls (a0 : Int) (r : Int) (w : World) (h : tappetref01_digit.f a0 = some r) :
    Calls Try.prog 51 #[.int .u8 a0] w fun e w' => e = .returned (.int .u8 r) ∧ Drawn0 w w' := by
  have H : (if a0 < 10 then (some ((48 + a0) % 256)) else (some ((((97 + a0) % 256) - 10) % 256))) = some r := h
  clear h
  by_cases c2 : a0 < 10
  · rw [if_pos c2] at H
    have c2b0 : decide (a0 < 10) = true := decide_eq_true c2
    clear c2
    obtain rfl := Option.some.inj H
    go_enter Try.func51, Try.ntmps51
    go_wp2
    go_ret
    exact ⟨by first | rfl | (simp; done) | (simp [*]; done), by repeat (first | exact Drawn0.refl _ | apply Drawn0.step)⟩
  · rw [if_neg c2] at H
    have c2b0 : decide (a0 < 10) = false := decide_eq_false c2
    clear c2
    obtain rfl := Option.some.inj H
    go_enter Try.func51, Try.ntmps51
    go_wp2
    go_ret
    exact ⟨by first | rfl | (simp; done) | (simp [*]; done), by repeat (first | exact Drawn0.refl _ | apply Drawn0.step)⟩

/-! ### tappetref01_Quote: function 46 -/
mutual
def tappetref01_Quote.l0 : Nat → ByteArray → List Int → Int → Option (ByteArray)
  | 0, _, _, _ => none
  | k + 1, x0, x3, x4 => if x4 < (x0.size : Int) then (if 0 ≤ x4 then (if (bt x0 x4) = 34 then (tappetref01_Quote.j1 k x0 x3 x4 (bt x0 x4) true) else (tappetref01_Quote.j1 k x0 x3 x4 (bt x0 x4) ((bt x0 x4) == 92))) else (none)) else (if x3.length < 140737488355328 then (some (strOfNums (x3 ++ [34]))) else (none))
def tappetref01_Quote.j1 : Nat → ByteArray → List Int → Int → Int → Bool → Option (ByteArray)
  | 0, _, _, _, _, _ => none
  | k + 1, x0, x3, x4, x5, x20 => if x20 = true then ((some (([92, x5] : List Int) : List Int)).bind fun y149 => (if x3.length + y149.length < 140737488355328 then (tappetref01_Quote.l0 k x0 (x3 ++ y149) (wrap64 (x4 + 1))) else (none))) else (if x5 < 32 then (tappetref01_Quote.j2 k x0 x3 x4 x5 true) else (tappetref01_Quote.j2 k x0 x3 x4 x5 (decide (x5 > 126))))
def tappetref01_Quote.j2 : Nat → ByteArray → List Int → Int → Int → Bool → Option (ByteArray)
  | 0, _, _, _, _, _ => none
  | k + 1, x0, x3, x4, x5, x31 => if x31 = true then ((tappetref01_digit.f ((Int.tdiv x5 16) % 256)).bind fun t155 => ((tappetref01_digit.f (Int.tmod x5 16)).bind fun t156 => ((some (([92, 120, t155, t156] : List Int) : List Int)).bind fun y157 => (if x3.length + y157.length < 140737488355328 then (tappetref01_Quote.l0 k x0 (x3 ++ y157) (wrap64 (x4 + 1))) else (none))))) else (if x3.length < 140737488355328 then (tappetref01_Quote.l0 k x0 (x3 ++ [x5]) (wrap64 (x4 + 1))) else (none))
end
def tappetref01_Quote.f (k : Nat) (a0 : ByteArray) : Option (ByteArray) := tappetref01_Quote.l0 k a0 (([34] : List Int)) 0
theorem tappetref01_Quote.mono_l : ∀ k, (∀ y0 y1 y2, LeO (tappetref01_Quote.l0 k y0 y1 y2) (tappetref01_Quote.l0 (k + 1) y0 y1 y2)) ∧ (∀ y0 y1 y2 y3 y4, LeO (tappetref01_Quote.j1 k y0 y1 y2 y3 y4) (tappetref01_Quote.j1 (k + 1) y0 y1 y2 y3 y4)) ∧ (∀ y0 y1 y2 y3 y4, LeO (tappetref01_Quote.j2 k y0 y1 y2 y3 y4) (tappetref01_Quote.j2 (k + 1) y0 y1 y2 y3 y4))
  | 0 => ⟨fun _ _ _ r h => by simp [tappetref01_Quote.l0] at h, fun _ _ _ _ _ r h => by simp [tappetref01_Quote.j1] at h, fun _ _ _ _ _ r h => by simp [tappetref01_Quote.j2] at h⟩
  | k + 1 => by
    obtain ⟨ih0, ih1, ih2⟩ := tappetref01_Quote.mono_l k
    refine ⟨?_, ?_, ?_⟩
    · intro y0 y1 y2
      unfold tappetref01_Quote.l0
      repeat' first
      | (with_reducible exact ih0 _ _ _)
      | (with_reducible exact ih1 _ _ _ _ _)
      | (with_reducible exact ih2 _ _ _ _ _)
      | (with_reducible exact LeO.refl _)
      | (with_reducible exact LeO.none _)
      | (with_reducible refine LeO.ite ?_ ?_)
      | (with_reducible refine LeO.bind ?_ (fun _ => ?_))
      | exact ih0 _ _ _
      | exact ih1 _ _ _ _ _
      | exact ih2 _ _ _ _ _
      | exact LeO.none _
      | refine LeO.ite ?_ ?_
      | refine LeO.bind ?_ (fun _ => ?_)
    · intro y0 y1 y2 y3 y4
      unfold tappetref01_Quote.j1
      repeat' first
      | (with_reducible exact ih0 _ _ _)
      | (with_reducible exact ih1 _ _ _ _ _)
      | (with_reducible exact ih2 _ _ _ _ _)
      | (with_reducible exact LeO.refl _)
      | (with_reducible exact LeO.none _)
      | (with_reducible refine LeO.ite ?_ ?_)
      | (with_reducible refine LeO.bind ?_ (fun _ => ?_))
      | exact ih0 _ _ _
      | exact ih1 _ _ _ _ _
      | exact ih2 _ _ _ _ _
      | exact LeO.none _
      | refine LeO.ite ?_ ?_
      | refine LeO.bind ?_ (fun _ => ?_)
    · intro y0 y1 y2 y3 y4
      unfold tappetref01_Quote.j2
      repeat' first
      | (with_reducible exact ih0 _ _ _)
      | (with_reducible exact ih1 _ _ _ _ _)
      | (with_reducible exact ih2 _ _ _ _ _)
      | (with_reducible exact LeO.refl _)
      | (with_reducible exact LeO.none _)
      | (with_reducible refine LeO.ite ?_ ?_)
      | (with_reducible refine LeO.bind ?_ (fun _ => ?_))
      | exact ih0 _ _ _
      | exact ih1 _ _ _ _ _
      | exact ih2 _ _ _ _ _
      | exact LeO.none _
      | refine LeO.ite ?_ ?_
      | refine LeO.bind ?_ (fun _ => ?_)
theorem tappetref01_Quote.mono : ∀ a0 k, LeO (tappetref01_Quote.f k a0) (tappetref01_Quote.f (k + 1) a0) := by
  intro a0 k
  obtain ⟨ih0, ih1, ih2⟩ := tappetref01_Quote.mono_l k
  unfold tappetref01_Quote.f
  repeat' first
      | (with_reducible exact ih0 _ _ _)
      | (with_reducible exact ih1 _ _ _ _ _)
      | (with_reducible exact ih2 _ _ _ _ _)
      | (with_reducible exact LeO.refl _)
      | (with_reducible exact LeO.none _)
      | (with_reducible refine LeO.ite ?_ ?_)
      | (with_reducible refine LeO.bind ?_ (fun _ => ?_))
      | exact ih0 _ _ _
      | exact ih1 _ _ _ _ _
      | exact ih2 _ _ _ _ _
      | exact LeO.none _
      | refine LeO.ite ?_ ?_
      | refine LeO.bind ?_ (fun _ => ?_)
set_option maxHeartbeats 8000000 in
set_option maxRecDepth 100000 in
theorem tappetref01_Quote.calls (k : Nat) (a0 : ByteArray) (r : ByteArray) (w : World) (h : tappetref01_Quote.f k a0 = some r) :
    Calls Try.prog 46 #[.string a0] w fun e w' => e = .returned (.string r) ∧ Below w.heap.size w w' := by
  have HB := Aside0.mk (Below.refl w.heap.size w)
  have H : (tappetref01_Quote.l0 k a0 (([34] : List Int)) 0) = some r := h
  clear h
  obtain ⟨y143, hy143⟩ : ∃ y_ : List Int, y_ = (([34] : List Int)) := ⟨_, rfl⟩
  replace H : (tappetref01_Quote.l0 k a0 y143 0) = some r := by first | (rw [hy143]; with_reducible exact H) | (have H2_ := (Option.bind_some _ _).symm.trans H; rw [hy143]; with_reducible exact H2_) | (have H2_ := (Option.bind_some _ _).symm.trans H; with_reducible exact H2_) | with_reducible exact H | (rw [hy143]; exact H) | exact H
  have Ny143 := Aside0.mk hy143
  clear hy143
  have H' := Aside0.mk H
  clear H
  go_enter Try.func46, Try.ntmps46
  go_wp2_with (first | ((with_reducible refine gate_dst (N := 6) rfl ?_); refine Kd.R_lit (Kd.int .u8) _ 5 ?hg (N := 6) ?hd (xs := ([34] : List Int)) (inner := [.int .u8 34]) (ok := fun _ => True) (okp := fun _ => True) ?hr ?hp (fun _ hk => hk) trivial (Below.refl _ _) (Nat.le_refl _) (by simp) ?_; (case hd => rfl); (case hg => rfl); (case hr => first | (go_simp; done) | (go_simp; rfl)); (case hp => exact (Reps.one (show Kd.M (Kd.int .u8) _ _ _ 34 [.int .u8 34] from rfl) (Reps.none _ _))); intro v144 w2 ho3 hb hg_ hnew_; clear hg_ hnew_; (first | rw [← Ny143.out] at ho3 | (simp only [Int.reduceToNat] at ho3; rw [← Ny143.out] at ho3)); have n0_ := Aside0.mk (Kd.R_lower ho3 (below_size (by repeat (first | (with_reducible first | exact HB.out | apply below_alloc | apply pw_below_drewN | apply below_drew1) | exact HB.out)))); have n1_ := Aside0.mk (below_step (by repeat (first | (with_reducible first | exact HB.out | apply below_alloc | apply pw_below_drewN | apply below_drew1) | exact HB.out)) hb); clear HB; have HO145 := n0_; have HB := n1_; clear n0_ n1_; clear hb ho3))
  go_loopg [3, 4] k (fun kq v3 v4 w' => ∃ (x3_1 : List Int) (x4_1 : Int), v4 = .int .i64 x4_1 ∧ Aside0 (tappetref01_Quote.l0 kq a0 x3_1 x4_1 = some r) ∧ Aside0 (kq ≤ k) ∧ Aside0 (Kd.R (Kd.int .u8) 5 w' w.heap.size (fun _ => True) v3 x3_1) ∧ Aside0 (Below w.heap.size w w'))
  case atStart => exact ⟨(y143), (0), (by first | rfl | (simp; done) | (simp [*]; done)), H', ⟨Nat.le_refl _⟩, ⟨by (with_reducible repeat (first | apply Kd.R_alloc | apply Kd.R_drewN | apply Kd.R_drew)); exact HO145.out⟩, ⟨by repeat (first | (with_reducible first | exact HB.out | apply below_alloc | apply pw_below_drewN | apply below_drew1) | exact HB.out)⟩⟩
  case round =>
    clear H'
    try clear p2
    obtain ⟨x3_1, x4_1, rfl, HA, HK1, HO_3, HB⟩ := hrel
    cases gk with
    | zero => exact absurd HA.out (by simp [tappetref01_Quote.l0])
    | succ k1 =>
      have H := HA.out
      clear HA
      simp only [tappetref01_Quote.l0] at H
      by_cases c4 : x4_1 < (a0.size : Int)
      · rw [if_pos c4] at H
        have c4b0 : decide (x4_1 < (a0.size : Int)) = true := decide_eq_true c4
        clear c4
        by_cases c5 : 0 ≤ x4_1
        · rw [if_pos c5] at H
          have c5b0 : decide (0 ≤ x4_1) = true := decide_eq_true c5
          clear c5
          have HC7 := Aside0.mk H
          clear H
          have p6 : 0 ≤ (x4_1 : Int) := of_decide_eq_true (by first | (with_reducible assumption) | assumption)
          have q6 : x4_1 < (a0.size : Int) := of_decide_eq_true (by first | (with_reducible assumption) | assumption)
          have hx6 := bt_at a0 x4_1
          replace p6 := eq_true p6
          replace q6 := eq_true q6
          go_upto_region 7 with (fail)
          go_cut [20] (fun v20 wc => ∃ (kq : Nat) (x20_6 : Bool), v20 = .bool x20_6 ∧ Aside0 (tappetref01_Quote.j1 kq a0 x3_1 x4_1 (bt a0 x4_1) x20_6 = some r) ∧ Aside0 (kq ≤ k1) ∧ Aside0 (Kd.R (Kd.int .u8) 5 wc w.heap.size (fun _ => True) u3 x3_1) ∧ Aside0 (Below w.heap.size w wc))
          case first =>
            have H := HC7.out
            clear HC7
            by_cases c8 : (bt a0 x4_1) = 34
            · rw [if_pos c8] at H
              have c8b0 : ((bt a0 x4_1) == 34) = true := beq_iff_eq.mpr c8
              have c8b1 : ((bt a0 x4_1) != 34) = false := bne_eq_false_iff_eq.mpr c8
              clear c8
              (first | rw [c8b0] | (simp only [i64_w, i32_w]; rw [c8b0]) | skip)
              have H' := Aside0.mk H
              clear H
              go_wp2
              go_meet
              case rel => exact ⟨_, (true), (by first | rfl | (simp; done) | (simp [*]; done)), H', ⟨by have := HK1.out; first | omega | exact Nat.le_refl _⟩, ⟨by (with_reducible repeat (first | apply Kd.R_alloc | apply Kd.R_drewN | apply Kd.R_drew)); exact HO_3.out⟩, ⟨by repeat (first | (with_reducible first | exact HB.out | apply below_alloc | apply pw_below_drewN | apply below_drew1) | exact HB.out)⟩⟩
            · rw [if_neg c8] at H
              have c8b0 : ((bt a0 x4_1) == 34) = false := beq_eq_false_iff_ne.mpr c8
              have c8b1 : ((bt a0 x4_1) != 34) = true := bne_iff_ne.mpr c8
              (first | rw [c8b0] | (simp only [i64_w, i32_w]; rw [c8b0]) | skip)
              have H' := Aside0.mk H
              clear H
              go_wp2
              go_meet
              case rel => exact ⟨_, (((bt a0 x4_1) == 92)), (by first | rfl | (simp; done) | (simp [*]; done)), H', ⟨by have := HK1.out; first | omega | exact Nat.le_refl _⟩, ⟨by (with_reducible repeat (first | apply Kd.R_alloc | apply Kd.R_drewN | apply Kd.R_drew)); exact HO_3.out⟩, ⟨by repeat (first | (with_reducible first | exact HB.out | apply below_alloc | apply pw_below_drewN | apply below_drew1) | exact HB.out)⟩⟩
          case rest =>
            clear HC7
            try clear p2
            try clear c4
            try clear c4b0
            try clear c5
            try clear c5b0
            try clear p6
            try clear q6
            try clear hx6
            try clear c8
            try clear c8b0
            try clear c8b1
            try clear p2
            try clear p6
            try clear q6
            obtain ⟨kq, x20_6, rfl, HA, HJ6, HO_3, HB⟩ := hcut
            cases kq with
            | zero => exact absurd HA.out (by simp [tappetref01_Quote.j1])
            | succ kj6 =>
              have H := HA.out
              clear HA
              simp only [tappetref01_Quote.j1] at H
              by_cases c9 : x20_6 = true
              · subst c9
                have H1 : ((some (([92, (bt a0 x4_1)] : List Int) : List Int)).bind fun y149 => (if x3_1.length + y149.length < 140737488355328 then (tappetref01_Quote.l0 kj6 a0 (x3_1 ++ y149) (wrap64 (x4_1 + 1))) else (none))) = some r := by rw [if_pos rfl] at H; exact H
                clear H
                have H := H1
                clear H1
                obtain ⟨y149, hy149⟩ : ∃ y_ : List Int, y_ = (([92, (bt a0 x4_1)] : List Int)) := ⟨_, rfl⟩
                replace H : (if x3_1.length + y149.length < 140737488355328 then (tappetref01_Quote.l0 kj6 a0 (x3_1 ++ y149) (wrap64 (x4_1 + 1))) else (none)) = some r := by first | (rw [hy149]; with_reducible exact H) | (have H2_ := (Option.bind_some _ _).symm.trans H; rw [hy149]; with_reducible exact H2_) | (have H2_ := (Option.bind_some _ _).symm.trans H; with_reducible exact H2_) | with_reducible exact H | (rw [hy149]; exact H) | exact H
                have Ny149 := Aside0.mk hy149
                clear hy149
                by_cases c10 : x3_1.length + y149.length < 140737488355328
                · rw [if_pos c10] at H
                  have LMc10 := Aside0.mk c10
                  clear c10
                  obtain ⟨y152, hy152⟩ : ∃ y_ : List Int, y_ = (x3_1 ++ y149) := ⟨_, rfl⟩
                  replace H : (tappetref01_Quote.l0 kj6 a0 y152 (wrap64 (x4_1 + 1))) = some r := by first | (rw [hy152]; with_reducible exact H) | (have H2_ := (Option.bind_some _ _).symm.trans H; rw [hy152]; with_reducible exact H2_) | (have H2_ := (Option.bind_some _ _).symm.trans H; with_reducible exact H2_) | with_reducible exact H | (rw [hy152]; exact H) | exact H
                  have Ny152 := Aside0.mk hy152
                  clear hy152
                  have H' := Aside0.mk H
                  clear H
                  go_wp2_with (first | ((with_reducible refine gate_dst (N := 29) rfl ?_); refine Kd.R_lit (Kd.int .u8) _ 5 ?hg (N := 29) ?hd (xs := ([92, (bt a0 x4_1)] : List Int)) (inner := [.int .u8 92, .int .u8 (bt a0 x4_1)]) (ok := fun _ => True) (okp := fun _ => True) ?hr ?hp (fun _ hk => hk) trivial (Below.refl _ _) (Nat.le_refl _) (by simp) ?_; (case hd => rfl); (case hg => rfl); (case hr => first | (go_simp; done) | (go_simp; rfl)); (case hp => exact (Reps.one (show Kd.M (Kd.int .u8) _ _ _ 92 [.int .u8 92] from rfl) (Reps.one (show Kd.M (Kd.int .u8) _ _ _ (bt a0 x4_1) [.int .u8 (bt a0 x4_1)] from rfl) (Reps.none _ _)))); intro v150 w11 ho12 hb hg_ hnew_; clear hg_ hnew_; (first | rw [← Ny149.out] at ho12 | (simp only [Int.reduceToNat] at ho12; rw [← Ny149.out] at ho12)); have n0_ := Aside0.mk (Kd.R_elder' (by (with_reducible repeat (first | apply Kd.R_alloc | apply Kd.R_drewN | apply Kd.R_drew)); exact HO_3.out) (Kd.R_base ho12) hb); have n1_ := Aside0.mk (Kd.R_lower (Kd.R_new' ho12 (Kd.R_lt (by (with_reducible repeat (first | apply Kd.R_alloc | apply Kd.R_drewN | apply Kd.R_drew)); exact HO_3.out))) (below_size (by repeat (first | (with_reducible first | exact HB.out | apply below_alloc | apply pw_below_drewN | apply below_drew1) | exact HB.out)))); have n2_ := Aside0.mk (below_step (by repeat (first | (with_reducible first | exact HB.out | apply below_alloc | apply pw_below_drewN | apply below_drew1) | exact HB.out)) hb); clear HO_3; clear HB; have HO_3 := n0_; have HO151 := n1_; have HB := n2_; clear n0_ n1_ n2_; clear hb ho12; obtain ⟨Ao14, co14, eo14⟩ := Kd.R_slice HO151.out; subst eo14) | ((with_reducible refine gate_builtin (b := .append) (xs := #[.tmp 27, .tmp 29]) rfl ?_); at_builtin; refine Kd.R_append_rows (Kd.int .u8) (w0 := w) w.heap.size rfl (.tmp 27) (.tmp 29) 23 5 (.int .u8 0) 1 rfl Try.underlying23 info5 rfl (by decide) (by omega) u3 x3_1 y149 _ _ _ (fun k_ => some k_ ≠ (.slice Ao14 y149.length co14 : Value).ownBlock) (fun _ => False) rfl rfl ?aO ?aR (fun _ _ h => h) (fun _ h => h.elim) ?aF ?aB ?aS ?aL ?_; (case aR => repeat (first | exact (Kd.R_reads' HO151.out).2.2 | (with_reducible refine Kd.C_alloc ?_ _) | (with_reducible refine Kd.C_drewN ?_ _) | (with_reducible refine Kd.C_drew ?_))); (case aB => exact (by repeat (first | (with_reducible first | exact HB.out | apply below_alloc | apply pw_below_drewN | apply below_drew1) | exact HB.out))); (case aF => exact (fun k_ hk => Kd.fresh' (Kd.R_lt (by (with_reducible repeat (first | apply Kd.R_alloc | apply Kd.R_drewN | apply Kd.R_drew)); exact HO151.out)) k_ hk)); (case aO => exact (by (with_reducible repeat (first | apply Kd.R_alloc | apply Kd.R_drewN | apply Kd.R_drew)); exact Kd.R_mono HO_3.out (fun _ hk => hk.2))); (case aS => exact (below_size (by repeat (first | (with_reducible first | exact HB.out | apply below_alloc | apply pw_below_drewN | apply below_drew1) | exact HB.out)))); (case aL => have := LMc10.out; omega); intro v153 w13 ho hb hg hat; rw [← Ny152.out] at ho; have n0_ := Aside0.mk (Kd.R_after (ok := (fun _ => True)) (by (with_reducible repeat (first | apply Kd.R_alloc | apply Kd.R_drewN | apply Kd.R_drew)); exact HO151.out) hg hat); have n1_ := Aside0.mk (hb); have n2_ := Aside0.mk (ho); clear HO151; clear HB; clear HO_3; have HO151 := n0_; have HB := n1_; have HO154 := n2_; clear n0_ n1_ n2_; clear ho hb hg hat))
                  go_roundg kj6
                  case measure => have := HK1.out; have := HJ6.out; omega
                  case rel => exact ⟨(y152), (wrap64 (x4_1 + 1)), (by first | rfl | (simp; done) | (simp [*]; done)), H', ⟨by have := HK1.out; have := HJ6.out; omega⟩, ⟨by (with_reducible repeat (first | apply Kd.R_alloc | apply Kd.R_drewN | apply Kd.R_drew)); exact Kd.R_mono HO154.out (fun _ hk => trivial)⟩, ⟨by repeat (first | (with_reducible first | exact HB.out | apply below_alloc | apply pw_below_drewN | apply below_drew1) | exact HB.out)⟩⟩
                · rw [if_neg c10] at H
                  exact absurd H (by simp)
              · replace c9 := Bool.eq_false_iff.mpr c9
                subst c9
                have H1 : (if (bt a0 x4_1) < 32 then (tappetref01_Quote.j2 kj6 a0 x3_1 x4_1 (bt a0 x4_1) true) else (tappetref01_Quote.j2 kj6 a0 x3_1 x4_1 (bt a0 x4_1) (decide ((bt a0 x4_1) > 126)))) = some r := by rw [if_neg (show ¬ (false = true) by decide)] at H; exact H
                clear H
                have H := H1
                clear H1
                have HC15 := Aside0.mk H
                clear H
                go_upto_region 9 with (fail)
                go_cut [31] (fun v31 wc => ∃ (kq : Nat) (x31_14 : Bool), v31 = .bool x31_14 ∧ Aside0 (tappetref01_Quote.j2 kq a0 x3_1 x4_1 (bt a0 x4_1) x31_14 = some r) ∧ Aside0 (kq ≤ kj6) ∧ Aside0 (Kd.R (Kd.int .u8) 5 wc w.heap.size (fun _ => True) u3 x3_1) ∧ Aside0 (Below w.heap.size w wc))
                case first =>
                  have H := HC15.out
                  clear HC15
                  by_cases c16 : (bt a0 x4_1) < 32
                  · rw [if_pos c16] at H
                    have c16b0 : decide ((bt a0 x4_1) < 32) = true := decide_eq_true c16
                    clear c16
                    (first | rw [c16b0] | (simp only [i64_w, i32_w]; rw [c16b0]) | skip)
                    have H' := Aside0.mk H
                    clear H
                    go_wp2
                    go_meet
                    case rel => exact ⟨_, (true), (by first | rfl | (simp; done) | (simp [*]; done)), H', ⟨by have := HK1.out; have := HJ6.out; first | omega | exact Nat.le_refl _⟩, ⟨by (with_reducible repeat (first | apply Kd.R_alloc | apply Kd.R_drewN | apply Kd.R_drew)); exact HO_3.out⟩, ⟨by repeat (first | (with_reducible first | exact HB.out | apply below_alloc | apply pw_below_drewN | apply below_drew1) | exact HB.out)⟩⟩
                  · rw [if_neg c16] at H
                    have c16b0 : decide ((bt a0 x4_1) < 32) = false := decide_eq_false c16
                    clear c16
                    (first | rw [c16b0] | (simp only [i64_w, i32_w]; rw [c16b0]) | skip)
                    have H' := Aside0.mk H
                    clear H
                    go_wp2
                    go_meet
                    case rel => exact ⟨_, (decide ((bt a0 x4_1) > 126)), (by first | rfl | (simp; done) | (simp [*]; done)), H', ⟨by have := HK1.out; have := HJ6.out; first | omega | exact Nat.le_refl _⟩, ⟨by (with_reducible repeat (first | apply Kd.R_alloc | apply Kd.R_drewN | apply Kd.R_drew)); exact HO_3.out⟩, ⟨by repeat (first | (with_reducible first | exact HB.out | apply below_alloc | apply pw_below_drewN | apply below_drew1) | exact HB.out)⟩⟩
                case rest =>
                  clear HC15
                  try clear c1
                  try clear p2
                  try clear c4
                  try clear c4b0
                  try clear c5
                  try clear c5b0
                  try clear p6
                  try clear q6
                  try clear hx6
                  try clear c8
                  try clear c8b0
                  try clear c8b1
                  try clear c9
                  try clear c10
                  try clear c16
                  try clear c16b0
                  try clear p2
                  try clear p6
                  try clear q6
                  obtain ⟨kq, x31_14, rfl, HA, HJ14, HO_3, HB⟩ := hcut
                  cases kq with
                  | zero => exact absurd HA.out (by simp [tappetref01_Quote.j2])
                  | succ kj14 =>
                    have H := HA.out
                    clear HA
                    simp only [tappetref01_Quote.j2] at H
                    by_cases c17 : x31_14 = true
                    · subst c17
                      have H1 : ((tappetref01_digit.f ((Int.tdiv (bt a0 x4_1) 16) % 256)).bind fun t155 => ((tappetref01_digit.f (Int.tmod (bt a0 x4_1) 16)).bind fun t156 => ((some (([92, 120, t155, t156] : List Int) : List Int)).bind fun y157 => (if x3_1.length + y157.length < 140737488355328 then (tappetref01_Quote.l0 kj14 a0 (x3_1 ++ y157) (wrap64 (x4_1 + 1))) else (none))))) = some r := by rw [if_pos rfl] at H; exact H
                      clear H
                      have H := H1
                      clear H1
                      replace H := Option.bind_eq_some_iff.mp H
                      obtain ⟨t155, A180, H⟩ := H
                      replace H : ((tappetref01_digit.f (Int.tmod (bt a0 x4_1) 16)).bind fun t156 => ((some (([92, 120, t155, t156] : List Int) : List Int)).bind fun y157 => (if x3_1.length + y157.length < 140737488355328 then (tappetref01_Quote.l0 kj14 a0 (x3_1 ++ y157) (wrap64 (x4_1 + 1))) else (none)))) = some r := H
                      have A18 := Aside0.mk A180
                      clear A180
                      replace H := Option.bind_eq_some_iff.mp H
                      obtain ⟨t156, A190, H⟩ := H
                      replace H : ((some (([92, 120, t155, t156] : List Int) : List Int)).bind fun y157 => (if x3_1.length + y157.length < 140737488355328 then (tappetref01_Quote.l0 kj14 a0 (x3_1 ++ y157) (wrap64 (x4_1 + 1))) else (none))) = some r := H
                      have A19 := Aside0.mk A190
                      clear A190
                      obtain ⟨y157, hy157⟩ : ∃ y_ : List Int, y_ = (([92, 120, t155, t156] : List Int)) := ⟨_, rfl⟩
                      replace H : (if x3_1.length + y157.length < 140737488355328 then (tappetref01_Quote.l0 kj14 a0 (x3_1 ++ y157) (wrap64 (x4_1 + 1))) else (none)) = some r := by first | (rw [hy157]; with_reducible exact H) | (have H2_ := (Option.bind_some _ _).symm.trans H; rw [hy157]; with_reducible exact H2_) | (have H2_ := (Option.bind_some _ _).symm.trans H; with_reducible exact H2_) | with_reducible exact H | (rw [hy157]; exact H) | exact H
                      have Ny157 := Aside0.mk hy157
                      clear hy157
                      by_cases c20 : x3_1.length + y157.length < 140737488355328
                      · rw [if_pos c20] at H
                        have LMc20 := Aside0.mk c20
                        clear c20
                        obtain ⟨y160, hy160⟩ : ∃ y_ : List Int, y_ = (x3_1 ++ y157) := ⟨_, rfl⟩
                        replace H : (tappetref01_Quote.l0 kj14 a0 y160 (wrap64 (x4_1 + 1))) = some r := by first | (rw [hy160]; with_reducible exact H) | (have H2_ := (Option.bind_some _ _).symm.trans H; rw [hy160]; with_reducible exact H2_) | (have H2_ := (Option.bind_some _ _).symm.trans H; with_reducible exact H2_) | with_reducible exact H | (rw [hy160]; exact H) | exact H
                        have Ny160 := Aside0.mk hy160
                        clear hy160
                        have H' := Aside0.mk H
                        clear H
                        go_wp2_with (first | ((with_reducible refine gate_callee (f := 51) rfl ?_); refine goesL_ (some 41) rfl rfl Try.func51 (by kernel_rfl) rfl #[.int .u8 ((Int.tdiv (bt a0 x4_1) 16) % 256)] rfl (by (try simp only [List.map_toArray, List.map_cons, List.map_nil]); first | done | rfl | (simp only [List.length_drop, List.length_take]; rfl)) ?_; (with_reducible refine (tappetref01_digit.calls ((Int.tdiv (bt a0 x4_1) 16) % 256) t155 _ A18.out).mono ?_); rintro e w' ⟨rfl, ⟨nd, rfl⟩⟩; refine ⟨_, rfl, ?_⟩) | ((with_reducible refine gate_callee (f := 51) rfl ?_); refine goesL_ (some 44) rfl rfl Try.func51 (by kernel_rfl) rfl #[.int .u8 (Int.tmod (bt a0 x4_1) 16)] rfl (by (try simp only [List.map_toArray, List.map_cons, List.map_nil]); first | done | rfl | (simp only [List.length_drop, List.length_take]; rfl)) ?_; (with_reducible refine (tappetref01_digit.calls (Int.tmod (bt a0 x4_1) 16) t156 _ A19.out).mono ?_); rintro e w' ⟨rfl, ⟨nd, rfl⟩⟩; refine ⟨_, rfl, ?_⟩) | ((with_reducible refine gate_dst (N := 45) rfl ?_); refine Kd.R_lit (Kd.int .u8) _ 5 ?hg (N := 45) ?hd (xs := ([92, 120, t155, t156] : List Int)) (inner := [.int .u8 92, .int .u8 120, .int .u8 t155, .int .u8 t156]) (ok := fun _ => True) (okp := fun _ => True) ?hr ?hp (fun _ hk => hk) trivial (Below.refl _ _) (Nat.le_refl _) (by simp) ?_; (case hd => rfl); (case hg => rfl); (case hr => first | (go_simp; done) | (go_simp; rfl)); (case hp => exact (Reps.one (show Kd.M (Kd.int .u8) _ _ _ 92 [.int .u8 92] from rfl) (Reps.one (show Kd.M (Kd.int .u8) _ _ _ 120 [.int .u8 120] from rfl) (Reps.one (show Kd.M (Kd.int .u8) _ _ _ t155 [.int .u8 t155] from rfl) (Reps.one (show Kd.M (Kd.int .u8) _ _ _ t156 [.int .u8 t156] from rfl) (Reps.none _ _)))))); intro v158 w21 ho22 hb hg_ hnew_; clear hg_ hnew_; (first | rw [← Ny157.out] at ho22 | (simp only [Int.reduceToNat] at ho22; rw [← Ny157.out] at ho22)); have n0_ := Aside0.mk (Kd.R_elder' (by (with_reducible repeat (first | apply Kd.R_alloc | apply Kd.R_drewN | apply Kd.R_drew)); exact HO_3.out) (Kd.R_base ho22) hb); have n1_ := Aside0.mk (Kd.R_lower (Kd.R_new' ho22 (Kd.R_lt (by (with_reducible repeat (first | apply Kd.R_alloc | apply Kd.R_drewN | apply Kd.R_drew)); exact HO_3.out))) (below_size (by repeat (first | (with_reducible first | exact HB.out | apply below_alloc | apply pw_below_drewN | apply below_drew1) | exact HB.out)))); have n2_ := Aside0.mk (below_step (by repeat (first | (with_reducible first | exact HB.out | apply below_alloc | apply pw_below_drewN | apply below_drew1) | exact HB.out)) hb); clear HO_3; clear HB; have HO_3 := n0_; have HO159 := n1_; have HB := n2_; clear n0_ n1_ n2_; clear hb ho22; obtain ⟨Ao24, co24, eo24⟩ := Kd.R_slice HO159.out; subst eo24) | ((with_reducible refine gate_builtin (b := .append) (xs := #[.tmp 38, .tmp 45]) rfl ?_); at_builtin; refine Kd.R_append_rows (Kd.int .u8) (w0 := w) w.heap.size rfl (.tmp 38) (.tmp 45) 23 5 (.int .u8 0) 1 rfl Try.underlying23 info5 rfl (by decide) (by omega) u3 x3_1 y157 _ _ _ (fun k_ => some k_ ≠ (.slice Ao24 y157.length co24 : Value).ownBlock) (fun _ => False) rfl rfl ?aO ?aR (fun _ _ h => h) (fun _ h => h.elim) ?aF ?aB ?aS ?aL ?_; (case aR => repeat (first | exact (Kd.R_reads' HO159.out).2.2 | (with_reducible refine Kd.C_alloc ?_ _) | (with_reducible refine Kd.C_drewN ?_ _) | (with_reducible refine Kd.C_drew ?_))); (case aB => exact (by repeat (first | (with_reducible first | exact HB.out | apply below_alloc | apply pw_below_drewN | apply below_drew1) | exact HB.out))); (case aF => exact (fun k_ hk => Kd.fresh' (Kd.R_lt (by (with_reducible repeat (first | apply Kd.R_alloc | apply Kd.R_drewN | apply Kd.R_drew)); exact HO159.out)) k_ hk)); (case aO => exact (by (with_reducible repeat (first | apply Kd.R_alloc | apply Kd.R_drewN | apply Kd.R_drew)); exact Kd.R_mono HO_3.out (fun _ hk => hk.2))); (case aS => exact (below_size (by repeat (first | (with_reducible first | exact HB.out | apply below_alloc | apply pw_below_drewN | apply below_drew1) | exact HB.out)))); (case aL => have := LMc20.out; omega); intro v161 w23 ho hb hg hat; rw [← Ny160.out] at ho; have n0_ := Aside0.mk (Kd.R_after (ok := (fun _ => True)) (by (with_reducible repeat (first | apply Kd.R_alloc | apply Kd.R_drewN | apply Kd.R_drew)); exact HO159.out) hg hat); have n1_ := Aside0.mk (hb); have n2_ := Aside0.mk (ho); clear HO159; clear HB; clear HO_3; have HO159 := n0_; have HB := n1_; have HO162 := n2_; clear n0_ n1_ n2_; clear ho hb hg hat))
                        go_roundg kj14
                        case measure => have := HK1.out; have := HJ6.out; have := HJ14.out; omega
                        case rel => exact ⟨(y160), (wrap64 (x4_1 + 1)), (by first | rfl | (simp; done) | (simp [*]; done)), H', ⟨by have := HK1.out; have := HJ6.out; have := HJ14.out; omega⟩, ⟨by (with_reducible repeat (first | apply Kd.R_alloc | apply Kd.R_drewN | apply Kd.R_drew)); exact Kd.R_mono HO162.out (fun _ hk => trivial)⟩, ⟨by repeat (first | (with_reducible first | exact HB.out | apply below_alloc | apply pw_below_drewN | apply below_drew1) | exact HB.out)⟩⟩
                      · rw [if_neg c20] at H
                        exact absurd H (by simp)
                    · replace c17 := Bool.eq_false_iff.mpr c17
                      subst c17
                      have H1 : (if x3_1.length < 140737488355328 then (tappetref01_Quote.l0 kj14 a0 (x3_1 ++ [(bt a0 x4_1)]) (wrap64 (x4_1 + 1))) else (none)) = some r := by rw [if_neg (show ¬ (false = true) by decide)] at H; exact H
                      clear H
                      have H := H1
                      clear H1
                      by_cases c25 : x3_1.length < 140737488355328
                      · rw [if_pos c25] at H
                        have LMc25 := Aside0.mk c25
                        clear c25
                        obtain ⟨y163, hy163⟩ : ∃ y_ : List Int, y_ = (x3_1 ++ [(bt a0 x4_1)]) := ⟨_, rfl⟩
                        replace H : (tappetref01_Quote.l0 kj14 a0 y163 (wrap64 (x4_1 + 1))) = some r := by first | (rw [hy163]; with_reducible exact H) | (have H2_ := (Option.bind_some _ _).symm.trans H; rw [hy163]; with_reducible exact H2_) | (have H2_ := (Option.bind_some _ _).symm.trans H; with_reducible exact H2_) | with_reducible exact H | (rw [hy163]; exact H) | exact H
                        have Ny163 := Aside0.mk hy163
                        clear hy163
                        have H' := Aside0.mk H
                        clear H
                        go_wp2_with (first | ((with_reducible refine gate_builtin (b := .append) (xs := #[.tmp 16, .tmp 18]) rfl ?_); at_builtin; refine Kd.R_append (Kd.int .u8) (w0 := w) w.heap.size rfl (.tmp 16) (.tmp 18) 23 5 (.int .u8 0) 1 rfl Try.underlying23 info5 rfl (by decide) (by omega) u3 x3_1 (bt a0 x4_1) [.int .u8 (bt a0 x4_1)] (fun _ => True) (fun _ => False) rfl rfl ?aP (fun _ hk => hk.elim) ?aF ?aO ?aB ?aS ?aL ?_; (case aP => exact rfl); (case aB => exact (by repeat (first | (with_reducible first | exact HB.out | apply below_alloc | apply pw_below_drewN | apply below_drew1) | exact HB.out))); (case aF => exact (fun _ _ => trivial)); (case aO => exact (by (with_reducible repeat (first | apply Kd.R_alloc | apply Kd.R_drewN | apply Kd.R_drew)); exact HO_3.out)); (case aS => exact (below_size (by repeat (first | (with_reducible first | exact HB.out | apply below_alloc | apply pw_below_drewN | apply below_drew1) | exact HB.out)))); (case aL => have := LMc25.out; omega); intro v164 w26 ho hb hg hat; rw [← Ny163.out] at ho; have n0_ := Aside0.mk (hb); have n1_ := Aside0.mk (ho); clear HB; clear HO_3; have HB := n0_; have HO165 := n1_; clear n0_ n1_; clear ho hb hg hat))
                        go_roundg kj14
                        case measure => have := HK1.out; have := HJ6.out; have := HJ14.out; omega
                        case rel => exact ⟨(y163), (wrap64 (x4_1 + 1)), (by first | rfl | (simp; done) | (simp [*]; done)), H', ⟨by have := HK1.out; have := HJ6.out; have := HJ14.out; omega⟩, ⟨by (with_reducible repeat (first | apply Kd.R_alloc | apply Kd.R_drewN | apply Kd.R_drew)); exact HO165.out⟩, ⟨by repeat (first | (with_reducible first | exact HB.out | apply below_alloc | apply pw_below_drewN | apply below_drew1) | exact HB.out)⟩⟩
                      · rw [if_neg c25] at H
                        exact absurd H (by simp)
        · rw [if_neg c5] at H
          exact absurd H (by simp)
      · rw [if_neg c4] at H
        have c4b0 : decide (x4_1 < (a0.size : Int)) = false := decide_eq_false c4
        clear c4
        by_cases c27 : x3_1.length < 140737488355328
        · rw [if_pos c27] at H
          have LMc27 := Aside0.mk c27
          clear c27
          obtain ⟨y146, hy146⟩ : ∃ y_ : List Int, y_ = (x3_1 ++ [34]) := ⟨_, rfl⟩
          replace H : (some (strOfNums y146)) = some r := by first | (rw [hy146]; with_reducible exact H) | (have H2_ := (Option.bind_some _ _).symm.trans H; rw [hy146]; with_reducible exact H2_) | (have H2_ := (Option.bind_some _ _).symm.trans H; with_reducible exact H2_) | with_reducible exact H | (rw [hy146]; exact H) | exact H
          have Ny146 := Aside0.mk hy146
          clear hy146
          obtain rfl := Option.some.inj H
          go_wp2_with (first | ((with_reducible refine gate_builtin (b := .append) (xs := #[.tmp 47, .tmp 48]) rfl ?_); at_builtin; refine Kd.R_append (Kd.int .u8) (w0 := w) w.heap.size rfl (.tmp 47) (.tmp 48) 23 5 (.int .u8 0) 1 rfl Try.underlying23 info5 rfl (by decide) (by omega) u3 x3_1 34 [.int .u8 34] (fun _ => True) (fun _ => False) rfl rfl ?aP (fun _ hk => hk.elim) ?aF ?aO ?aB ?aS ?aL ?_; (case aP => exact rfl); (case aB => exact (by repeat (first | (with_reducible first | exact HB.out | apply below_alloc | apply pw_below_drewN | apply below_drew1) | exact HB.out))); (case aF => exact (fun _ _ => trivial)); (case aO => exact (by (with_reducible repeat (first | apply Kd.R_alloc | apply Kd.R_drewN | apply Kd.R_drew)); exact HO_3.out)); (case aS => exact (below_size (by repeat (first | (with_reducible first | exact HB.out | apply below_alloc | apply pw_below_drewN | apply below_drew1) | exact HB.out)))); (case aL => have := LMc27.out; omega); intro v147 w28 ho hb hg hat; rw [← Ny146.out] at ho; have n0_ := Aside0.mk (hb); have n1_ := Aside0.mk (ho); clear HB; clear HO_3; have HB := n0_; have HO148 := n1_; clear n0_ n1_; clear ho hb hg hat; have hcv29 := own_string (P := Try.prog) Try.underlying23 Try.underlying5 Try.underlying9 (Kd.own_of_R HO148.out)))
          go_ret
          exact ⟨by first | rfl | (simp [errW_none, errW_some] <;> rfl) | (simp [*, errW_none, errW_some] <;> rfl), by repeat (first | (with_reducible first | exact HB.out | apply below_alloc | apply pw_below_drewN | apply below_drew1) | exact HB.out)⟩
        · rw [if_neg c27] at H
          exact absurd H (by simp)

/-! ### tappetref01_nibble: function 50 -/
def tappetref01_nibble.l0 : Nat → Int → Int → Option (Int)
  | 0, _, _ => none
  | k + 1, x0, x3 => if x3 < 16 then ((tappetref01_digit.f x3).bind fun t166 => (if t166 = x0 then (some x3) else (tappetref01_nibble.l0 k x0 ((x3 + 1) % 256)))) else (some 16)
def tappetref01_nibble.f (k : Nat) (a0 : Int) : Option (Int) := tappetref01_nibble.l0 k a0 0
theorem tappetref01_nibble.mono_l : ∀ k, (∀ y0 y1, LeO (tappetref01_nibble.l0 k y0 y1) (tappetref01_nibble.l0 (k + 1) y0 y1))
  | 0 => fun _ _ r h => by simp [tappetref01_nibble.l0] at h
  | k + 1 => by
    have ih0 := tappetref01_nibble.mono_l k
    · intro y0 y1
      unfold tappetref01_nibble.l0
      repeat' first
      | (with_reducible exact ih0 _ _)
      | (with_reducible exact LeO.refl _)
      | (with_reducible exact LeO.none _)
      | (with_reducible refine LeO.ite ?_ ?_)
      | (with_reducible refine LeO.bind ?_ (fun _ => ?_))
      | exact ih0 _ _
      | exact LeO.none _
      | refine LeO.ite ?_ ?_
      | refine LeO.bind ?_ (fun _ => ?_)
theorem tappetref01_nibble.mono : ∀ a0 k, LeO (tappetref01_nibble.f k a0) (tappetref01_nibble.f (k + 1) a0) := by
  intro a0 k
  have ih0 := tappetref01_nibble.mono_l k
  unfold tappetref01_nibble.f
  repeat' first
      | (with_reducible exact ih0 _ _)
      | (with_reducible exact LeO.refl _)
      | (with_reducible exact LeO.none _)
      | (with_reducible refine LeO.ite ?_ ?_)
      | (with_reducible refine LeO.bind ?_ (fun _ => ?_))
      | exact ih0 _ _
      | exact LeO.none _
      | refine LeO.ite ?_ ?_
      | refine LeO.bind ?_ (fun _ => ?_)
set_option maxHeartbeats 8000000 in
set_option maxRecDepth 100000 in
theorem tappetref01_nibble.calls (k : Nat) (a0 : Int) (r : Int) (w : World) (h : tappetref01_nibble.f k a0 = some r) :
    Calls Try.prog 50 #[.int .u8 a0] w fun e w' => e = .returned (.int .u8 r) ∧ Drawn0 w w' := by
  have H : (tappetref01_nibble.l0 k a0 0) = some r := h
  clear h
  have H' := Aside0.mk H
  clear H
  go_enter Try.func50, Try.ntmps50
  go_wp2
  go_loopg [3] k (fun kq v3 w' => ∃ (x3_1 : Int), v3 = .int .u8 x3_1 ∧ Aside0 (tappetref01_nibble.l0 kq a0 x3_1 = some r) ∧ Aside0 (kq ≤ k) ∧ Drawn0 w w')
  case atStart => exact ⟨(0), (by first | rfl | (simp; done) | (simp [*]; done)), H', ⟨Nat.le_refl _⟩, by repeat (first | exact Drawn0.refl _ | apply Drawn0.step)⟩
  case round =>
    clear H'
    obtain ⟨x3_1, rfl, HA, HK1, ⟨m1, rfl⟩⟩ := hrel
    cases gk with
    | zero => exact absurd HA.out (by simp [tappetref01_nibble.l0])
    | succ k1 =>
      have H := HA.out
      clear HA
      simp only [tappetref01_nibble.l0] at H
      by_cases c2 : x3_1 < 16
      · rw [if_pos c2] at H
        have c2b0 : decide (x3_1 < 16) = true := decide_eq_true c2
        clear c2
        replace H := Option.bind_eq_some_iff.mp H
        obtain ⟨t166, A30, H⟩ := H
        replace H : (if t166 = a0 then (some x3_1) else (tappetref01_nibble.l0 k1 a0 ((x3_1 + 1) % 256))) = some r := H
        have A3 := Aside0.mk A30
        clear A30
        by_cases c4 : t166 = a0
        · rw [if_pos c4] at H
          have c4b0 : (t166 == a0) = true := beq_iff_eq.mpr c4
          have c4b1 : (t166 != a0) = false := bne_eq_false_iff_eq.mpr c4
          clear c4
          obtain rfl := Option.some.inj H
          go_wp2_with (first | ((with_reducible refine gate_callee (f := 51) rfl ?_); refine goesL_ (some 9) rfl rfl Try.func51 (by kernel_rfl) rfl #[.int .u8 x3_1] rfl (by (try simp only [List.map_toArray, List.map_cons, List.map_nil]); first | done | rfl | (simp only [List.length_drop, List.length_take]; rfl)) ?_; (with_reducible refine (tappetref01_digit.calls x3_1 t166 _ A3.out).mono ?_); rintro e w' ⟨rfl, ⟨nd, rfl⟩⟩; refine ⟨_, rfl, ?_⟩))
          go_ret
          exact ⟨by first | rfl | (simp; done) | (simp [*]; done), by repeat (first | exact Drawn0.refl _ | apply Drawn0.step)⟩
        · rw [if_neg c4] at H
          have c4b0 : (t166 == a0) = false := beq_eq_false_iff_ne.mpr c4
          have c4b1 : (t166 != a0) = true := bne_iff_ne.mpr c4
          have H' := Aside0.mk H
          clear H
          go_wp2_with (first | ((with_reducible refine gate_callee (f := 51) rfl ?_); refine goesL_ (some 9) rfl rfl Try.func51 (by kernel_rfl) rfl #[.int .u8 x3_1] rfl (by (try simp only [List.map_toArray, List.map_cons, List.map_nil]); first | done | rfl | (simp only [List.length_drop, List.length_take]; rfl)) ?_; (with_reducible refine (tappetref01_digit.calls x3_1 t166 _ A3.out).mono ?_); rintro e w' ⟨rfl, ⟨nd, rfl⟩⟩; refine ⟨_, rfl, ?_⟩))
          go_roundg k1
          case measure => have := HK1.out; omega
          case rel => exact ⟨((x3_1 + 1) % 256), (by first | rfl | (simp; done) | (simp [*]; done)), H', ⟨by have := HK1.out; omega⟩, by repeat (first | exact Drawn0.refl _ | apply Drawn0.step)⟩
      · rw [if_neg c2] at H
        have c2b0 : decide (x3_1 < 16) = false := decide_eq_false c2
        clear c2
        obtain rfl := Option.some.inj H
        go_wp2
        go_ret
        exact ⟨by first | rfl | (simp; done) | (simp [*]; done), by repeat (first | exact Drawn0.refl _ | apply Drawn0.step)⟩

end Go.Proofs.Ytbhlalnpefijkaa.XB
