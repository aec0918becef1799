/- octet.Reader: the contracts of End, Bytes and Text on a reader that was made. -/
import Derived.Test.YtbhlalnpefijkaaXCx2
import Derived.Test.YtbhlalnpefijkaaHRn
namespace Go.Proofs.Ytbhlalnpefijkaa
set_option linter.unusedVariables false
set_option linter.unusedSimpArgs false
open Go.RowKit Go.Proofs.YtbhlalnpefijkaaW.PrintWords Go.Proofs.YtbhlalnpefijkaaW.PrintLast Go.Proofs.YtbhlalnpefijkaaW.PrintMore Go.Proofs.Ytbhlalnpefijkaa.XC

theorem only_below {w w' : World} {B : Nat} (h : Below w.heap.size w w') : RdOnly w w' B := ⟨h.os, h.tape, h.output, h.size, fun k hk _ => h.block k hk⟩
theorem only_refl (w : World) (B : Nat) : RdOnly w w B := only_below (Below.refl _ _)
/-- what End tells -/
def endE (bs : List Int) : Int := if bs = [] then 0 else 11
set_option maxRecDepth 1000000 in
set_option maxHeartbeats 1000000 in
theorem end_calls (B base : Nat) (bs : List Int) (w : World) (h : RdSt w base B bs) :
    Calls Try.prog 27 #[.pointer (some ⟨B, 0, none⟩)] w fun e w' => e = .returned (.int .i64 (endE bs)) ∧ w = w' := by
  obtain ⟨A, c, h0, h1, _, _, h3, h4, _⟩ := h.cells
  by_cases hb : bs = []
  · subst hb
    go_enter Try.func27, Try.ntmps27
    go_wp2
    go_ret
    exact ⟨rfl, rfl⟩
  · have hp : 0 < bs.length := List.length_pos_iff.mpr hb
    have d1 : decide (0 < (bs.length : Int)) = true := decide_eq_true (by omega)
    have he : endE bs = 11 := by unfold endE; rw [if_neg hb]
    clear hb
    rw [he]
    go_enter Try.func27, Try.ntmps27
    go_wp2
    go_ret
    exact ⟨rfl, rfl⟩
/-- what Bytes answers, and what is left -/
def bytesR (bs : List Int) (n : Int) : List Int × Int × List Int :=
  if n < 0 then ([], 2, bs) else if (bs.length : Int) < n then ([], 10, bs) else (bs.take n.toNat, 0, bs.drop n.toNat)
theorem cut_calls (B base : Nat) (bs : List Int) (n : Int) (w : World) (h : RdSt w base B bs) :
    Calls Try.prog 47 #[.pointer (some ⟨B, 0, none⟩), .int .i64 n] w fun e w' => ∃ v, e = .returned (.tuple #[v, .int .i64 (bytesR bs n).2.1]) ∧ (Kd.int .u8).R 5 w' w.heap.size (fun _ => True) v (bytesR bs n).1 ∧ RdSt w' base B (bytesR bs n).2.2 ∧ RdOnly w w' B := by
  unfold bytesR
  by_cases h1 : n < 0
  · rw [if_pos h1]
    refine (cut_neg B base bs n w h h1).mono ?_
    rintro e w' ⟨rfl, rfl⟩
    exact ⟨_, rfl, Kd.R_nil _ _ _ _ _, h, only_refl _ _⟩
  · rw [if_neg h1]
    by_cases h2 : (bs.length : Int) < n
    · rw [if_pos h2]
      refine (cut_short B base bs n w h h2).mono ?_
      rintro e w' ⟨rfl, rfl⟩
      exact ⟨_, rfl, Kd.R_nil _ _ _ _ _, h, only_refl _ _⟩
    · rw [if_neg h2]
      obtain ⟨m, rfl⟩ := Int.eq_ofNat_of_zero_le (by omega : 0 ≤ n)
      exact cut_yes B base bs m w h (by omega)
set_option maxRecDepth 1000000 in
set_option maxHeartbeats 1000000 in
theorem bytes_calls (B base : Nat) (bs : List Int) (n : Int) (w : World) (h : RdSt w base B bs) (l : List Int) (er : Int) (bs' : List Int) (hr : bytesR bs n = (l, er, bs')) :
    Calls Try.prog 31 #[.pointer (some ⟨B, 0, none⟩), .int .i64 n] w fun e w' => ∃ v, e = .returned (.tuple #[v, .int .i64 er]) ∧ (Kd.int .u8).R 5 w' w.heap.size (fun _ => True) v l ∧ RdSt w' base B bs' ∧ RdOnly w w' B := by
  have H := cut_calls B base bs n w h
  rw [hr] at H
  have H := Aside0.mk H
  clear h
  go_enter Try.func31, Try.ntmps31
  go_wp2_with fail
  refine H.out.mono ?_
  rintro e w1 ⟨v, rfl, h1, h2, h3⟩
  have H1 := Aside0.mk h1; have H2 := Aside0.mk h2; have H3 := Aside0.mk h3
  clear h1 h2 h3 hr
  go_wp2_with fail
  go_ret2
  exact ⟨v, rfl, H1.out, H2.out, H3.out⟩
/-- what Number answers, and what is left -/
def numR (bs : List Int) (n : Int) : Int × Int × List Int :=
  if n < 1 ∨ 8 < n then (0, 2, bs) else if (bs.length : Int) < n then (0, 10, bs) else (leVal (bs.take n.toNat), 0, bs.drop n.toNat)
theorem number_calls (B base : Nat) (bs : List Int) (n : Int) (w : World) (h : RdSt w base B bs) (hb : ∀ x ∈ bs, 0 ≤ x ∧ x ≤ 255) :
    Calls Try.prog 25 #[.pointer (some ⟨B, 0, none⟩), .int .i64 n] w fun e w' => e = .returned (.tuple #[.int .u64 (numR bs n).1, .int .i64 (numR bs n).2.1]) ∧ RdSt w' base B (numR bs n).2.2 ∧ RdOnly w w' B := by
  unfold numR
  by_cases h1 : n < 1 ∨ 8 < n
  · rw [if_pos h1]
    refine (number_arg B base bs n w h h1).mono ?_
    rintro e w' ⟨rfl, rfl⟩
    exact ⟨rfl, h, only_refl _ _⟩
  · rw [if_neg h1]
    by_cases h2 : (bs.length : Int) < n
    · rw [if_pos h2]
      refine (number_short B base bs n w h (by omega) h2).mono ?_
      rintro e w' ⟨rfl, rfl⟩
      exact ⟨rfl, h, only_refl _ _⟩
    · rw [if_neg h2]
      obtain ⟨m, rfl⟩ := Int.eq_ofNat_of_zero_le (by omega : 0 ≤ n)
      exact number_yes B base bs m w h (by omega) (by omega) hb
/-- what Text answers, and what is left -/
def textR (bs : List Int) : ByteArray × Int × List Int :=
  match bs with
  | [] => (⟨#[]⟩, 10, [])
  | x :: r => if (r.length : Int) < x then (⟨#[]⟩, 10, x :: r) else if plainB (strOfNums (r.take x.toNat)) = true then (strOfNums (r.take x.toNat), 0, r.drop x.toNat) else (⟨#[]⟩, 12, x :: r)
set_option maxRecDepth 1000000 in
set_option maxHeartbeats 1000000 in
theorem text_nil (B base : Nat) (w : World) (h : RdSt w base B []) :
    Calls Try.prog 26 #[.pointer (some ⟨B, 0, none⟩)] w fun e w' => e = .returned (.tuple #[.string ⟨#[]⟩, .int .i64 10]) ∧ Below w.heap.size w w' := by
  obtain ⟨A, c, h0, h1, _, _, h3, h4, _⟩ := h.cells
  go_enter Try.func26, Try.ntmps26
  go_wp2_with fail
  repeat (go_quiet (fail))
  go_wp2_with fail
  go_ret2
  exact ⟨rfl, below_drewN (Below.refl _ _) _⟩
theorem rd_head {w : World} {A : Option Addr} {x : Int} {r : List Int} (h : (Kd.int .u8).C w A (x :: r).length (x :: r)) : ∃ ad, A = some ad ∧ w.cell? ad = some (.int .u8 x) := by
  obtain ⟨ad, e, hc⟩ := (Kd.reads_of_C (d := (0 : Int)) h).2.2 (by simp)
  refine ⟨ad, e, ?_⟩
  have := hc 0 (by simp)
  simpa [Addr.add] using this
set_option maxRecDepth 1000000 in
set_option maxHeartbeats 1000000 in
theorem text_short (B base : Nat) (x : Int) (r : List Int) (w : World) (h : RdSt w base B (x :: r)) (hx1 : 0 ≤ x ∧ x ≤ 255) (hs : (r.length : Int) < x) :
    Calls Try.prog 26 #[.pointer (some ⟨B, 0, none⟩)] w fun e w' => e = .returned (.tuple #[.string ⟨#[]⟩, .int .i64 10]) ∧ Below w.heap.size w w' := by
  obtain ⟨A, c, h0, h1, _, _, h3, h4, hC⟩ := h.cells
  obtain ⟨ad, rfl, hx⟩ := rd_head hC
  obtain ⟨L, hL, hL2⟩ : ∃ L, (x :: r).length = L ∧ L = r.length + 1 := ⟨_, rfl, rfl⟩
  rw [hL] at h1 h3 h4
  clear hC h hL
  have d0 : (0 < L) = True := eq_true (by omega)
  have d5 : IntKind.i64.wrap ((L : Int) - 1) = L - 1 := by rw [IntKind.wrap_i64]; omega
  have d1 : ((L : Int) == 0) = false := by simp; omega
  have d2 : wrap64 ((L : Int) - 1) = L - 1 := by unfold wrap64; omega
  have d3 : IntKind.i64.wrap x = x := by rw [IntKind.wrap_i64]; omega
  have d4 : decide ((L : Int) - 1 < x) = true := decide_eq_true (by omega)
  clear hs hL2 hx1
  go_enter Try.func26, Try.ntmps26
  go_wp2_with fail
  repeat (go_quiet (fail))
  go_wp2_with fail
  go_ret2
  exact ⟨rfl, below_drewN (Below.refl _ _) _⟩
/-- the facts that Text's walk needs of a reader whose first byte tells m, m bytes behind it -/
structure TextFacts (w : World) (ad : Addr) (L c m : Nat) (r : List Int) (A1 : Option Addr) (c1 : Nat) : Prop where
  cut : ∀ W, (Instr.slice 23 (.slice (some ad) L c) (some (.int .i64 1)) (some (.int .i64 (1 + m))) none).run Try.prog W = .ok (.slice A1 m c1) W
  conv : ∀ W, Below w.heap.size w W → (convert 23 9 (.slice A1 m c1)).run Try.prog W = .ok (.string (strOfNums (r.take m))) W
  cut2 : ∀ W, (Instr.slice 23 (.slice (some ad) L c) (some (.int .i64 (1 + m))) none none).run Try.prog W = .ok (cutV (some ad) L c (1 + m)) W
theorem text_facts {w : World} {ad : Addr} {c m : Nat} {x : Int} {r : List Int} (hC : (Kd.int .u8).C w (some ad) (x :: r).length (x :: r)) (hc : (x :: r).length ≤ c) (hm : m ≤ r.length) : ∃ A1 c1, TextFacts w ad (r.length + 1) c m r A1 c1 := by
  obtain ⟨i0, hi0, _, hsz, _⟩ := info_parts rd_info5
  have hl : r.length + 1 ≤ c := hc
  have hA := Kd.C_mid (lo := 1) (hi := m + 1) (c := c) hC (by omega) (by simp; omega) hc
  have hm2 : ((x :: r).take (m + 1)).drop 1 = r.take m := by simp
  have hm3 : (r.take m).length = m := by rw [List.length_take]; omega
  rw [hm2, hm3] at hA
  refine ⟨_, c - 1, fun W => ?_, fun W hB => Kd.C_string (P := Try.prog) (src := 23) (dst := 9) (e := 5) (c := c - 1) (by kernel_rfl) (by kernel_rfl) (by kernel_rfl) (Kd.C_below hA hB), fun W => ?_⟩
  · have h := cut_mid (P := Try.prog) 23 5 .i64 .i64 Try.underlying23 hi0 1 hsz (some ad) (r.length + 1) c 1 (1 + m) (by omega) (by omega) (by omega) hl W
    rw [h]
    congr 2
    omega
  · have h := cut_from (P := Try.prog) 23 5 .i64 Try.underlying23 hi0 1 hsz (some ad) (r.length + 1) c (1 + m) (by omega) (by omega) W
    rw [h]
    unfold cutV
    have e : (1 + (m : Int)).toNat = 1 + m := by omega
    rw [e, Nat.mul_one]
set_option maxRecDepth 1000000 in
set_option maxHeartbeats 1000000 in
theorem text_bad (B base : Nat) (m : Nat) (r : List Int) (w : World) (h : RdSt w base B ((m : Int) :: r)) (hx1 : m ≤ 255) (hs : m ≤ r.length) (hp : plainB (strOfNums (r.take m)) = false) :
    Calls Try.prog 26 #[.pointer (some ⟨B, 0, none⟩)] w fun e w' => e = .returned (.tuple #[.string ⟨#[]⟩, .int .i64 12]) ∧ Below w.heap.size w w' := by
  obtain ⟨A, c, h0, h1, _, _, h3, h4, hC⟩ := h.cells
  obtain ⟨ad, rfl, hx⟩ := rd_head hC
  obtain ⟨A1, c1, hT⟩ := text_facts hC h3 hs
  have hcut := hT.cut
  have hconv := Aside0.mk hT.conv
  clear hT
  obtain ⟨L, hL, hL2⟩ : ∃ L, ((m : Int) :: r).length = L ∧ L = r.length + 1 := ⟨_, rfl, rfl⟩
  rw [← hL2] at hcut
  rw [hL] at h1 h3 h4
  clear hC h hL
  have d0 : (0 < L) = True := eq_true (by omega)
  have d5 : IntKind.i64.wrap ((L : Int) - 1) = L - 1 := by rw [IntKind.wrap_i64]; omega
  have d1 : ((L : Int) == 0) = false := by simp; omega
  have d2 : wrap64 ((L : Int) - 1) = L - 1 := by unfold wrap64; omega
  have d3 : IntKind.i64.wrap (m : Int) = m := by rw [IntKind.wrap_i64]; omega
  have d4 : decide ((L : Int) - 1 < m) = false := decide_eq_false (by omega)
  have d6 : IntKind.i64.wrap (1 + (m : Int)) = 1 + m := by rw [IntKind.wrap_i64]; omega
  have d7 : wrap64 (1 + (m : Int)) = 1 + m := by unfold wrap64; omega
  clear hs hL2 hx1
  generalize strOfNums (r.take m) = s at *
  go_enter Try.func26, Try.ntmps26
  go_wp2_with fail
  repeat (go_quiet (fail))
  have hcv := hconv.out (w.drewN nq) (below_drewN (Below.refl _ _) _)
  go_wp2_with fail
  refine (octet_Plain.calls s (plainB s) _ rfl).mono ?_
  rintro e w1 ⟨rfl, B1⟩
  rw [hp]
  have HB1 := Aside0.mk ((below_drewN (Below.refl w.heap.size w) nq).trans B1)
  clear hcv B1
  go_wp2_with fail
  go_ret2
  exact ⟨rfl, HB1.out⟩
set_option maxRecDepth 1000000 in
set_option maxHeartbeats 1000000 in
theorem text_yes (B base : Nat) (m : Nat) (r : List Int) (w : World) (h : RdSt w base B ((m : Int) :: r)) (hx1 : m ≤ 255) (hs : m ≤ r.length) (hp : plainB (strOfNums (r.take m)) = true) :
    Calls Try.prog 26 #[.pointer (some ⟨B, 0, none⟩)] w fun e w' => e = .returned (.tuple #[.string (strOfNums (r.take m)), .int .i64 0]) ∧ RdSt w' base B (r.drop m) ∧ RdOnly w w' B := by
  obtain ⟨A, c, h0, h1, hf0, hf1, h3, h4, hC⟩ := h.cells
  obtain ⟨ad, rfl, hx⟩ := rd_head hC
  obtain ⟨A1, c1, hT⟩ := text_facts hC h3 hs
  have hcut := hT.cut
  have hcut2 := hT.cut2
  have hconv := Aside0.mk hT.conv
  clear hT
  have HR0 := Aside0.mk h
  have Hs := Aside0.mk hs
  obtain ⟨L, hL, hL2⟩ : ∃ L, ((m : Int) :: r).length = L ∧ L = r.length + 1 := ⟨_, rfl, rfl⟩
  rw [← hL2] at hcut hcut2
  have HL := Aside0.mk hL
  obtain ⟨A2, L2, c2, hV⟩ : ∃ A2 L2 c2, cutV (some ad) L c (1 + m) = .slice A2 L2 c2 := ⟨_, _, _, rfl⟩
  rw [hV] at hcut2
  have HV := Aside0.mk hV
  clear hV
  rw [hL] at h1 h3 h4
  have K1 := Aside0.mk h1
  clear hC h hL
  have d0 : (0 < L) = True := eq_true (by omega)
  have d5 : IntKind.i64.wrap ((L : Int) - 1) = L - 1 := by rw [IntKind.wrap_i64]; omega
  have d1 : ((L : Int) == 0) = false := by simp; omega
  have d2 : wrap64 ((L : Int) - 1) = L - 1 := by unfold wrap64; omega
  have d3 : IntKind.i64.wrap (m : Int) = m := by rw [IntKind.wrap_i64]; omega
  have d4 : decide ((L : Int) - 1 < m) = false := decide_eq_false (by omega)
  have d6 : IntKind.i64.wrap (1 + (m : Int)) = 1 + m := by rw [IntKind.wrap_i64]; omega
  have d7 : wrap64 (1 + (m : Int)) = 1 + m := by unfold wrap64; omega
  clear hs hL2 hx1
  generalize strOfNums (r.take m) = s at *
  go_enter Try.func26, Try.ntmps26
  go_wp2_with fail
  repeat (go_quiet (fail))
  have hcv := hconv.out (w.drewN nq) (below_drewN (Below.refl _ _) _)
  go_wp2_with fail
  refine (octet_Plain.calls s (plainB s) _ rfl).mono ?_
  rintro e w1 ⟨rfl, B1⟩
  rw [hp]
  have HB1 := Aside0.mk ((below_drewN (Below.refl w.heap.size w) nq).trans B1)
  obtain ⟨C0, C1, F0, F1⟩ := rd_kept HB1.out h0 K1.out hf0 hf1 (rd_lt HR0.out)
  have KC := Aside0.mk C1
  clear hcv B1 h0 h1 hf0 hf1
  go_wp2_with fail
  go_ret2
  have hR1 := HR0.out.below HB1.out
  have hk := KC.out
  rw [← HL.out] at hk
  have hcr := rd_cut hR1 hk (1 + m) (by have := Hs.out; simp; omega)
  rw [HL.out, HV.out, show ((m : Int) :: r).drop (1 + m) = r.drop m by rw [Nat.add_comm, List.drop_succ_cons]] at hcr
  refine ⟨rfl, hcr, ⟨HB1.out.os, HB1.out.tape, HB1.out.output, by simpa [World.setCell] using HB1.out.size, fun k hk hne => ?_⟩⟩
  rw [Below.heap_setCell w1 ⟨B, 1, none⟩ _ k (fun e => hne (by rw [e]))]
  exact HB1.out.block k hk
theorem text_calls (B base : Nat) (bs : List Int) (w : World) (h : RdSt w base B bs) (hb : ∀ x ∈ bs, 0 ≤ x ∧ x ≤ 255) (s : ByteArray) (er : Int) (bs' : List Int) (hr : textR bs = (s, er, bs')) :
    Calls Try.prog 26 #[.pointer (some ⟨B, 0, none⟩)] w fun e w' => e = .returned (.tuple #[.string s, .int .i64 er]) ∧ RdSt w' base B bs' ∧ RdOnly w w' B := by
  rcases bs with _ | ⟨x, r⟩
  · simp only [textR, Prod.mk.injEq] at hr
    obtain ⟨rfl, rfl, rfl⟩ := hr
    refine (text_nil B base w h).mono ?_
    rintro e w' ⟨rfl, hB⟩
    exact ⟨rfl, h.below hB, only_below hB⟩
  · obtain ⟨m, rfl⟩ := Int.eq_ofNat_of_zero_le (hb x (List.mem_cons_self)).1
    have hm := (hb _ (List.mem_cons_self)).2
    unfold textR at hr
    simp only at hr
    by_cases h1 : (r.length : Int) < (m : Int)
    · rw [if_pos h1] at hr
      simp only [Prod.mk.injEq] at hr
      obtain ⟨rfl, rfl, rfl⟩ := hr
      refine (text_short B base m r w h (by omega) h1).mono ?_
      rintro e w' ⟨rfl, hB⟩
      exact ⟨rfl, h.below hB, only_below hB⟩
    · rw [if_neg h1] at hr
      rw [show ((m : Int)).toNat = m from Int.toNat_natCast m] at hr
      cases hp : plainB (strOfNums (r.take m)) with
      | true =>
        rw [if_pos hp] at hr
        simp only [Prod.mk.injEq] at hr
        obtain ⟨rfl, rfl, rfl⟩ := hr
        exact text_yes B base m r w h (by omega) (by omega) hp
      | false =>
        rw [if_neg (by rw [hp]; simp)] at hr
        simp only [Prod.mk.injEq] at hr
        obtain ⟨rfl, rfl, rfl⟩ := hr
        refine (text_bad B base m r w h (by omega) (by omega) hp).mono ?_
        rintro e w' ⟨rfl, hB⟩
        exact ⟨rfl, h.below hB, only_below hB⟩
end Go.Proofs.Ytbhlalnpefijkaa
