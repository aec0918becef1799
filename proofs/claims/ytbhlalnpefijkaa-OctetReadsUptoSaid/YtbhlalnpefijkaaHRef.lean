/- the document's reader (tappetref01.Reader): the contracts of New, Number, Bytes and Text. -/
import Derived.Test.YtbhlalnpefijkaaHRt
import Derived.Deep.RegionHeld3
namespace Go.Proofs.Ytbhlalnpefijkaa
set_option linter.unusedVariables false
set_option linter.unusedSimpArgs false
open Go.RowKit Go.Proofs.YtbhlalnpefijkaaW.PrintWords Go.Proofs.YtbhlalnpefijkaaW.PrintLast Go.Proofs.YtbhlalnpefijkaaW.PrintMore Go.Proofs.Ytbhlalnpefijkaa.XC

theorem or_low (v x : Nat) (hv : v < 72057594037927936) (hx : x ≤ 255) : bits .or .u64 (IntKind.u64.wrap ((v : Int) * 256)) (IntKind.u64.wrap (x : Int)) = ((x + 256 * v : Nat) : Int) := by
  have e1 : IntKind.u64.wrap (x : Int) = (x : Int) := by rw [IntKind.wrap_u64]; omega
  have e2 : IntKind.u64.wrap ((v : Int) * 256) = ((2 ^ 8 * v : Nat) : Int) := by rw [IntKind.wrap_u64]; omega
  rw [e1, e2, bits_or_u64_nat _ x (by omega) (by omega), ← Nat.two_pow_add_eq_or_of_lt (by omega : x < 2 ^ 8) v]
  congr 1
  omega
theorem leVal_step (l : List Int) (m : Nat) (hm : m < l.length) (h8 : l.length ≤ 8) (hb : ∀ x ∈ l, 0 ≤ x ∧ x ≤ 255) :
    bits .or .u64 (IntKind.u64.wrap (leVal (l.drop (m + 1)) * 256)) (IntKind.u64.wrap (l.getD m 0)) = leVal (l.drop m) := by
  have hx := hb l[m] (List.getElem_mem hm)
  have hv := leVal_lt (l.drop (m + 1)) (fun x hx => hb x (List.mem_of_mem_drop hx))
  have hp : (256 : Int) ^ (l.drop (m + 1)).length ≤ 72057594037927936 := by
    rw [List.length_drop]
    rcases (by omega : l.length - (m + 1) = 0 ∨ l.length - (m + 1) = 1 ∨ l.length - (m + 1) = 2 ∨ l.length - (m + 1) = 3 ∨ l.length - (m + 1) = 4 ∨ l.length - (m + 1) = 5 ∨ l.length - (m + 1) = 6 ∨ l.length - (m + 1) = 7) with h | h | h | h | h | h | h | h <;> rw [h] <;> decide
  rw [List.getD_eq_getElem?_getD, List.getElem?_eq_getElem hm, List.drop_eq_getElem_cons hm]
  show bits .or .u64 (IntKind.u64.wrap (leVal (l.drop (m + 1)) * 256)) (IntKind.u64.wrap l[m]) = l[m] + 256 * leVal (l.drop (m + 1))
  obtain ⟨v, hv1⟩ := Int.eq_ofNat_of_zero_le hv.1
  obtain ⟨x, hx1⟩ := Int.eq_ofNat_of_zero_le hx.1
  rw [hv1, hx1]
  rw [or_low v x (by omega) (by omega)]
  omega
set_option maxRecDepth 1000000 in
set_option maxHeartbeats 1000000 in
theorem value_nil (A : Option Addr) (c : Nat) (w : World) :
    Calls Try.prog 48 #[.slice A 0 c] w fun e w' => e = .returned (.int .u64 0) ∧ w = w' := by
  go_enter Try.func48, Try.ntmps48
  go_wp2
  go_loop [3, 4] (fun v i => v = .int .u64 0 ∧ i = .int .i64 (-1)) (fun _ _ => 0)
  case atStart => exact ⟨rfl, rfl⟩
  case round =>
    obtain ⟨rfl, rfl⟩ := hrel
    go_wp2
    go_ret
    exact ⟨rfl, rfl⟩
set_option maxRecDepth 1000000 in
set_option maxHeartbeats 1000000 in
theorem value_some (ad : Addr) (c : Nat) (l : List Int) (w : World) (hC : (Kd.int .u8).C w (some ad) l.length l) (hp : 0 < l.length) (h8 : l.length ≤ 8) (hb : ∀ x ∈ l, 0 ≤ x ∧ x ≤ 255) :
    Calls Try.prog 48 #[.slice (some ad) l.length c] w fun e w' => e = .returned (.int .u64 (leVal l)) ∧ w = w' := by
  have Hb := Aside0.mk hb
  have HC := Aside0.mk hC
  clear hb hC
  go_enter Try.func48, Try.ntmps48
  go_wp2
  go_loop [3, 4] (fun v i => ∃ m : Nat, m ≤ l.length ∧ i = .int .i64 ((m : Int) - 1) ∧ v = .int .u64 (leVal (l.drop m))) (fun _ i => (intOf i + 1).toNat)
  case atStart => exact ⟨l.length, by omega, by first | rfl | go_num, by rw [List.drop_eq_nil_of_le (Nat.le_refl _)]; rfl⟩
  case round =>
    obtain ⟨m, hm, rfl, rfl⟩ := hrel
    rcases m with _ | m
    · have e0 : (((0 : Nat) : Int) - 1) = -1 := rfl
      rw [e0]
      clear e0
      go_wp2
      go_ret
      exact ⟨rfl, rfl⟩
    · have e0 : (((m + 1 : Nat) : Int) - 1) = m := by omega
      rw [e0]
      clear e0
      have hcell := (Kd.reads_of_C (d := (0 : Int)) HC.out).2.2 hp
      obtain ⟨ad', e1, hcc⟩ := hcell
      injection e1 with e1
      subst e1
      have hx := hcc m (by omega)
      have HS := Aside0.mk (leVal_step l m (by omega) h8 Hb.out)
      clear hcc
      have d1 : decide ((m : Int) < (l.length : Int)) = true := decide_eq_true (by omega)
      go_wp2
      go_round
      case rel => exact ⟨m, by omega, by go_num, by rw [← HS.out, List.getD_eq_getElem?_getD]⟩
      case measure => simp [intOf]
theorem value_calls (A : Option Addr) (c : Nat) (l : List Int) (w : World) (hC : (Kd.int .u8).C w A l.length l) (h8 : l.length ≤ 8) (hb : ∀ x ∈ l, 0 ≤ x ∧ x ≤ 255) :
    Calls Try.prog 48 #[.slice A l.length c] w fun e w' => e = .returned (.int .u64 (leVal l)) ∧ w = w' := by
  rcases l with _ | ⟨x, r⟩
  · exact value_nil A c w
  · obtain ⟨ad, rfl, _⟩ := (Kd.reads_of_C (d := (0 : Int)) hC).2.2 (by simp)
    exact value_some ad c (x :: r) w hC (by simp) h8 hb
/-- block B is a document's reader, made from base on: the bytes l, and the place a among them -/
def PtSt (w : World) (base B : Nat) (l : List Int) (a : Nat) : Prop :=
  ∃ (A : Option Addr) (c : Nat), w.heap[B]? = some (.cells #[.slice A l.length c, .int .i64 a] 67 (0, 0)) ∧ base ≤ B ∧ l.length ≤ c ∧ l.length ≤ 140737488355328 ∧ a ≤ l.length ∧
    (0 < l.length → ∃ g off, A = some ⟨g, off, none⟩ ∧ base ≤ g ∧ g < w.heap.size ∧ g ≠ B ∧ (∃ cs, w.heap[g]? = some (.cells cs 5 (0, 0))) ∧ ∀ j, j < l.length → w.cell? ⟨g, off + j, none⟩ = some (.int .u8 (l.getD j 0)))
theorem pt_boxed {w w1 : World} {A : Option Addr} {c : Nat} {l : List Int} (hb : Below w.heap.size w w1) (h : RdRow w1 w.heap.size A c l) :
    PtSt (w1.alloc (.cells #[.slice A l.length c, .int .i64 0] 67)) w.heap.size w1.heap.size l 0 := by
  refine ⟨A, c, heap_alloc_new w1 _, hb.size, h.1, h.2.1, Nat.zero_le _, fun hp => ?_⟩
  obtain ⟨g, off, e, h1, h2, ⟨cs, hcs⟩, h3⟩ := h.2.2 hp
  refine ⟨g, off, e, h1, by simp; omega, by omega, ⟨cs, (heap_alloc_old w1 _ h2).trans hcs⟩, fun j hj => ?_⟩
  rw [World.cell?_alloc_lt _ _ _ h2]
  exact h3 j hj
theorem PtSt.cells {w : World} {base B : Nat} {l : List Int} {a : Nat} (h : PtSt w base B l a) : ∃ A c, w.cell? ⟨B, 0, none⟩ = some (.slice A l.length c) ∧ w.cell? ⟨B, 1, none⟩ = some (.int .i64 a) ∧ w.frozen? ⟨B, 0, none⟩ = false ∧ w.frozen? ⟨B, 1, none⟩ = false ∧ l.length ≤ c ∧ l.length ≤ 140737488355328 ∧ a ≤ l.length ∧ (Kd.int .u8).C w A l.length l := by
  obtain ⟨A, c, h1, h2, h3, h4, ha, h5⟩ := h
  refine ⟨A, c, by simp [World.cell?, h1], by simp [World.cell?, h1], by simp [World.frozen?, h1], by simp [World.frozen?, h1], h3, h4, ha, Kd.C_of_reads (d := (0 : Int)) ⟨rfl, by omega, fun hp => ?_⟩⟩
  obtain ⟨g, off, rfl, _, _, _, _, hc⟩ := h5 hp
  refine ⟨_, rfl, fun j hj => ?_⟩
  rw [show (Addr.add ⟨g, off, none⟩ j) = ⟨g, off + j, none⟩ from by unfold Addr.add; split <;> simp_all]
  exact hc j hj
theorem pt_lt {w : World} {base B : Nat} {l : List Int} {a : Nat} (h : PtSt w base B l a) : B < w.heap.size := by
  obtain ⟨A, c, h1, _⟩ := h
  rcases Nat.lt_or_ge B w.heap.size with h | h
  · exact h
  · rw [Array.getElem?_eq_none h] at h1; cases h1
theorem PtSt.below {w w1 : World} {base B : Nat} {l : List Int} {a : Nat} (h : PtSt w base B l a) (hb : Below w.heap.size w w1) : PtSt w1 base B l a := by
  have hB := pt_lt h
  obtain ⟨A, c, h1, h2, h3, h4, ha, h5⟩ := h
  refine ⟨A, c, (hb.block B hB).trans h1, h2, h3, h4, ha, fun hp => ?_⟩
  obtain ⟨g, off, rfl, g1, g2, g3, ⟨cs, hcs⟩, hc⟩ := h5 hp
  exact ⟨g, off, rfl, g1, Nat.lt_of_lt_of_le g2 hb.size, g3, ⟨cs, (hb.block g g2).trans hcs⟩, fun j hj => (hb.cell (p := ⟨g, off + j, none⟩) g2).trans (hc j hj)⟩
/-- the place moves on -/
theorem pt_move {w1 : World} {base B : Nat} {l : List Int} {a b : Nat} (h : PtSt w1 base B l a) (hb : b ≤ l.length) : PtSt (w1.setCell ⟨B, 1, none⟩ (.int .i64 b)) base B l b := by
  obtain ⟨A, c, h1, h2, h3, h4, ha, h5⟩ := h
  have hblk : (w1.setCell ⟨B, 1, none⟩ (.int .i64 b)).heap[B]? = some (.cells #[.slice A l.length c, .int .i64 b] 67 (0, 0)) := by
    simp [World.setCell, Array.getElem?_modify, h1]
  refine ⟨_, _, hblk, h2, h3, h4, hb, fun hp => ?_⟩
  obtain ⟨g, off, e, g1, g2, g3, ⟨cs, hcs⟩, hc⟩ := h5 hp
  refine ⟨g, off, e, g1, by simpa [World.setCell] using g2, g3, ⟨cs, (Below.heap_setCell w1 ⟨B, 1, none⟩ _ g g3).trans hcs⟩, fun j hj => ?_⟩
  rw [World.cell?_of_block (Below.heap_setCell w1 ⟨B, 1, none⟩ _ g g3)]
  exact hc j hj
theorem only_set {w w1 : World} {B : Nat} (hB : Below w.heap.size w w1) (v : Value) : RdOnly w (w1.setCell ⟨B, 1, none⟩ v) B :=
  ⟨hB.os, hB.tape, hB.output, by simpa [World.setCell] using hB.size, fun k hk hne => by
    rw [Below.heap_setCell w1 ⟨B, 1, none⟩ _ k (fun e => hne (by rw [e]))]
    exact hB.block k hk⟩
theorem only_then {w w1 w2 : World} {B : Nat} (h : RdOnly w w1 B) (h2 : Below w1.heap.size w1 w2) : RdOnly w w2 B :=
  ⟨h2.os.trans h.os, h2.tape.trans h.tape, h2.output.trans h.output, Nat.le_trans h.size h2.size, fun k hk hne => (h2.block k (Nat.lt_of_lt_of_le hk h.size)).trans (h.block k hk hne)⟩
set_option maxRecDepth 1000000 in
set_option maxHeartbeats 1000000 in
theorem new_calls (k : Nat) (A : Option Addr) (c : Nat) (l : List Int) (w : World) (hr : (Kd.int .u8).C w A l.length l) (hc : l.length ≤ c) (hl : l.length ≤ 140737488351232) (hf : tappetref01_Copy.f k l = some l) :
    Calls Try.prog 29 #[.slice A l.length c] w fun e w' => ∃ B, e = .returned (.pointer (some ⟨B, 0, none⟩)) ∧ PtSt w' w.heap.size B l 0 ∧ Below w.heap.size w w' := by
  have H := Aside0.mk (tappetref01_Copy.calls k A c l l w hr hc hf)
  clear hr
  go_enter Try.func29, Try.ntmps29
  go_wp2_with fail
  refine H.out.mono ?_
  rintro e w1 ⟨v, rfl, hR, hB⟩
  obtain ⟨A1, c1, hF, hS⟩ := rd_made (l := l) (by rw [List.nil_append]; exact hR) (by omega)
  subst hF
  have HS := Aside0.mk hS
  have HB := Aside0.mk hB
  clear hS hB hR
  go_wp2_with fail
  go_ret
  exact ⟨w1.heap.size, rfl, pt_boxed HB.out HS.out, (HB.out.alloc HB.out.size _)⟩
set_option maxRecDepth 1000000 in
set_option maxHeartbeats 1000000 in
theorem pbytes_neg (B base : Nat) (l : List Int) (a : Nat) (n : Int) (w : World) (h : PtSt w base B l a) (hn : n < 0) :
    Calls Try.prog 32 #[.pointer (some ⟨B, 0, none⟩), .int .i64 n] w fun e w' => e = .returned (.tuple #[.slice none 0 0, .int .i64 2]) ∧ w = w' := by
  have d1 : decide (n < 0) = true := decide_eq_true hn
  go_enter Try.func32, Try.ntmps32
  go_wp2
  go_ret2
  exact ⟨rfl, rfl⟩
set_option maxRecDepth 1000000 in
set_option maxHeartbeats 1000000 in
theorem pbytes_short (B base : Nat) (l : List Int) (a : Nat) (n : Int) (w : World) (h : PtSt w base B l a) (hn : 0 ≤ n) (hs : (l.length : Int) - a < n) :
    Calls Try.prog 32 #[.pointer (some ⟨B, 0, none⟩), .int .i64 n] w fun e w' => e = .returned (.tuple #[.slice none 0 0, .int .i64 10]) ∧ Below w.heap.size w w' := by
  obtain ⟨A, c, h0, h1, _, _, h3, h4, ha, hC⟩ := h.cells
  have d1 : decide (n < 0) = false := decide_eq_false (by omega)
  have d2 : IntKind.i64.wrap ((l.length : Int) - a) = l.length - a := by rw [IntKind.wrap_i64]; omega
  have d3 : decide ((l.length : Int) - a < n) = true := decide_eq_true hs
  clear h hC hs
  go_enter Try.func32, Try.ntmps32
  go_wp2_with fail
  repeat (go_quiet (fail))
  go_wp2_with fail
  go_ret2
  exact ⟨rfl, below_drewN (Below.refl _ _) _⟩
/-- the cut l[a:b], read -/
structure CutAt (w : World) (A : Option Addr) (L c a b : Nat) (bs : List Int) (A1 : Option Addr) (c1 : Nat) : Prop where
  cut : ∀ W, (Instr.slice 23 (.slice A L c) (some (.int .i64 a)) (some (.int .i64 b)) none).run Try.prog W = .ok (.slice A1 bs.length c1) W
  read : ∀ W, Below w.heap.size w W → (Kd.int .u8).C W A1 bs.length bs
  fits : bs.length ≤ c1
theorem cut_at {w : World} {A : Option Addr} {c a b : Nat} {l bs : List Int} (hC : (Kd.int .u8).C w A l.length l) (hc : l.length ≤ c) (hab : a ≤ b) (hb : b ≤ l.length) (hbs : bs = (l.drop a).take (b - a)) : ∃ A1 c1, CutAt w A l.length c a b bs A1 c1 := by
  obtain ⟨i0, hi0, _, hsz, _⟩ := info_parts rd_info5
  have hA := Kd.C_mid (lo := a) (hi := b) (c := c) hC hab hb hc
  have hm : (l.take b).drop a = bs := by rw [hbs, List.drop_take]
  have hl : bs.length = b - a := by rw [hbs, List.length_take, List.length_drop]; omega
  rw [hm] at hA
  refine ⟨_, c - a, fun W => ?_, fun W hB => Kd.C_below hA hB, by omega⟩
  have h := cut_mid (P := Try.prog) 23 5 .i64 .i64 Try.underlying23 hi0 1 hsz A l.length c a b (by omega) (by omega) (by omega) hc W
  rw [h, hl]
  simp only [Int.toNat_natCast]
  rfl
theorem pt_cell0 {w : World} {base B : Nat} {l : List Int} {a : Nat} {A : Option Addr} {c : Nat} (h : PtSt w base B l a) (h0 : w.cell? ⟨B, 0, none⟩ = some (.slice A l.length c)) (v : Value) : (w.setCell ⟨B, 1, none⟩ v).cell? ⟨B, 0, none⟩ = some (.slice A l.length c) := by
  obtain ⟨A0, c0, hh, _⟩ := h
  have : w.cell? ⟨B, 0, none⟩ = some (.slice A0 l.length c0) := by simp [World.cell?, hh]
  rw [h0] at this
  simp [World.cell?, World.setCell, Array.getElem?_modify, hh]
  simpa using this.symm
/-- what the rest of Bytes and Number needs behind the store -/
structure PtCut (w : World) (base B : Nat) (l : List Int) (b a : Nat) (bs : List Int) (A : Option Addr) (c : Nat) (A1 : Option Addr) (c1 : Nat) : Prop where
  st : PtSt w base B l b
  x0 : w.cell? ⟨B, 0, none⟩ = some (.slice A l.length c)
  x1 : w.cell? ⟨B, 1, none⟩ = some (.int .i64 b)
  cut : CutAt w A l.length c a b bs A1 c1
theorem pt_cut {w : World} {base B : Nat} {l : List Int} {a b : Nat} {bs : List Int} {A : Option Addr} {c : Nat} (h : PtSt w base B l a) (h0 : w.cell? ⟨B, 0, none⟩ = some (.slice A l.length c)) (hab : a ≤ b) (hb : b ≤ l.length) (hbs : bs = (l.drop a).take (b - a)) :
    ∃ A1 c1, PtCut (w.setCell ⟨B, 1, none⟩ (.int .i64 b)) base B l b a bs A c A1 c1 := by
  have hn := pt_move h hb
  obtain ⟨A', c', k0, k1, _, _, k3, _, _, kC⟩ := hn.cells
  have hk := pt_cell0 h h0 (.int .i64 b)
  have : A' = A ∧ c' = c := by rw [hk] at k0; simpa using k0.symm
  obtain ⟨rfl, rfl⟩ := this
  obtain ⟨A1, c1, hcut⟩ := cut_at (bs := bs) kC k3 hab hb hbs
  exact ⟨A1, c1, hn, k0, k1, hcut⟩
theorem pt_kept {w w1 : World} {B : Nat} {u v : Value} (hb : Below w.heap.size w w1) (h0 : w.cell? ⟨B, 0, none⟩ = some u) (h1 : w.cell? ⟨B, 1, none⟩ = some v) (f0 : w.frozen? ⟨B, 0, none⟩ = false) (f1 : w.frozen? ⟨B, 1, none⟩ = false) (hl : B < w.heap.size) :
    w1.cell? ⟨B, 0, none⟩ = some u ∧ w1.cell? ⟨B, 1, none⟩ = some v ∧ w1.frozen? ⟨B, 0, none⟩ = false ∧ w1.frozen? ⟨B, 1, none⟩ = false := rd_kept hb h0 h1 f0 f1 hl
set_option maxRecDepth 1000000 in
set_option maxHeartbeats 1000000 in
theorem pbytes_yes (k : Nat) (B base : Nat) (l : List Int) (a b n : Nat) (bs : List Int) (w : World) (h : PtSt w base B l a) (hab : b = a + n) (hb : b ≤ l.length) (hbs : bs = (l.drop a).take n) (hf : tappetref01_Copy.f k bs = some bs) :
    Calls Try.prog 32 #[.pointer (some ⟨B, 0, none⟩), .int .i64 n] w fun e w' => ∃ v, e = .returned (.tuple #[v, .int .i64 0]) ∧ (Kd.int .u8).R 5 w' w.heap.size (fun _ => True) v bs ∧ PtSt w' base B l b ∧ RdOnly w w' B := by
  obtain ⟨A, c, h0, h1, f0, f1, h3, h4, ha, hC⟩ := h.cells
  have d1 : decide ((n : Int) < 0) = false := decide_eq_false (by omega)
  have d2 : IntKind.i64.wrap ((l.length : Int) - a) = l.length - a := by rw [IntKind.wrap_i64]; omega
  have d3 : decide ((l.length : Int) - a < n) = false := decide_eq_false (by omega)
  have d4 : wrap64 ((a : Int) + n) = b := by unfold wrap64; omega
  have d5 : IntKind.i64.wrap ((b : Int) - n) = a := by rw [IntKind.wrap_i64]; omega
  have HST := Aside0.mk h
  have HAB := Aside0.mk (show a ≤ b by omega)
  have HBL := Aside0.mk hb
  have HBS := Aside0.mk (show bs = (l.drop a).take (b - a) by rw [hbs, hab, Nat.add_sub_cancel_left])
  clear h hC hab hb hbs
  go_enter Try.func32, Try.ntmps32
  go_wp2_with fail
  repeat (go_quiet (fail))
  have HB1 := Aside0.mk (below_drewN (Below.refl w.heap.size w) nq)
  have HS1 := Aside0.mk (HST.out.below HB1.out)
  obtain ⟨k0, k1, k2, k3⟩ := pt_kept HB1.out h0 h1 f0 f1 (pt_lt HST.out)
  clear h0 h1 f0 f1
  obtain ⟨A1, c1, hcut⟩ := pt_cut HS1.out k0 HAB.out HBL.out HBS.out
  have HC := Aside0.mk hcut
  have HO := Aside0.mk (only_set (B := B) HB1.out (.int .i64 b))
  clear hcut
  generalize hWX : w.drewN nq = w1 at *
  clear hWX
  go_wp2_with fail
  generalize hWX : w1.setCell ⟨B, 1, none⟩ (.int .i64 b) = w2 at *
  clear hWX k0 k1 k2 k3 HS1 HB1
  have x0 := HC.out.x0
  have x1 := HC.out.x1
  have hq := HC.out.cut.cut
  have HBX := Aside0.mk (below_drew1 (Below.refl w2.heap.size w2))
  have HCP := Aside0.mk (tappetref01_Copy.calls k A1 c1 bs bs w2.drew (HC.out.cut.read _ HBX.out) HC.out.cut.fits hf)
  go_region_held3 (fun w' => w'.cell? ⟨B, 0, none⟩ = some (.slice A l.length c) ∧ w'.cell? ⟨B, 1, none⟩ = some (.int .i64 b)) (first | exact ⟨pw_cell_below HBX.out HC.out.x0, pw_cell_below HBX.out HC.out.x1⟩ | exact ⟨pw_cell_below B2 (pw_cell_below HBX.out HC.out.x0), pw_cell_below B2 (pw_cell_below HBX.out HC.out.x1)⟩) (first | (go_at_call 23; refine HCP.out.mono ?_; rintro e w3 ⟨v, rfl, R3, B2⟩))
  have H3 := Aside0.mk (Kd.R_lower R3 (show w.heap.size ≤ w2.drew.heap.size from HO.out.size))
  have HB3 := Aside0.mk B2
  clear R3 B2
  go_wp2_with fail
  go_ret2
  exact ⟨v, rfl, H3.out, (HC.out.st.below HBX.out).below HB3.out, only_then (only_then HO.out HBX.out) HB3.out⟩
set_option maxRecDepth 1000000 in
set_option maxHeartbeats 1000000 in
theorem pnumber_arg (B base : Nat) (l : List Int) (a : Nat) (n : Int) (w : World) (h : PtSt w base B l a) (hn : n < 1 ∨ 8 < n) :
    Calls Try.prog 30 #[.pointer (some ⟨B, 0, none⟩), .int .i64 n] w fun e w' => e = .returned (.tuple #[.int .u64 0, .int .i64 2]) ∧ w = w' := by
  rcases hn with hn | hn
  · have d1 : decide (n < 1) = true := decide_eq_true hn
    go_enter Try.func30, Try.ntmps30
    go_wp2
    go_ret2
    exact ⟨rfl, rfl⟩
  · have d1 : decide (n < 1) = false := decide_eq_false (by omega)
    have d2 : decide (8 < n) = true := decide_eq_true hn
    go_enter Try.func30, Try.ntmps30
    go_wp2
    go_ret2
    exact ⟨rfl, rfl⟩
set_option maxRecDepth 1000000 in
set_option maxHeartbeats 1000000 in
theorem pnumber_short (B base : Nat) (l : List Int) (a : Nat) (n : Int) (w : World) (h : PtSt w base B l a) (hn : 1 ≤ n ∧ n ≤ 8) (hs : (l.length : Int) - a < n) :
    Calls Try.prog 30 #[.pointer (some ⟨B, 0, none⟩), .int .i64 n] w fun e w' => e = .returned (.tuple #[.int .u64 0, .int .i64 10]) ∧ Below w.heap.size w w' := by
  obtain ⟨A, c, h0, h1, _, _, h3, h4, ha, hC⟩ := h.cells
  have d1 : decide (n < 1) = false := decide_eq_false (by omega)
  have d1b : decide (8 < n) = false := decide_eq_false (by omega)
  have d2 : IntKind.i64.wrap ((l.length : Int) - a) = l.length - a := by rw [IntKind.wrap_i64]; omega
  have d3 : decide ((l.length : Int) - a < n) = true := decide_eq_true hs
  clear h hC hs
  go_enter Try.func30, Try.ntmps30
  go_wp2_with fail
  repeat (go_quiet (fail))
  go_wp2_with fail
  go_ret2
  exact ⟨rfl, below_drewN (Below.refl _ _) _⟩
set_option maxRecDepth 1000000 in
set_option maxHeartbeats 1000000 in
theorem pnumber_yes (B base : Nat) (l : List Int) (a b n : Nat) (bs : List Int) (w : World) (h : PtSt w base B l a) (hn : 1 ≤ n ∧ n ≤ 8) (hab : b = a + n) (hb : b ≤ l.length) (hbs : bs = (l.drop a).take n) (hby : ∀ x ∈ bs, 0 ≤ x ∧ x ≤ 255) :
    Calls Try.prog 30 #[.pointer (some ⟨B, 0, none⟩), .int .i64 n] w fun e w' => e = .returned (.tuple #[.int .u64 (leVal bs), .int .i64 0]) ∧ PtSt w' base B l b ∧ RdOnly w w' B := by
  have HBY := Aside0.mk hby
  have HL8 := Aside0.mk (show bs.length ≤ 8 by rw [hbs, List.length_take]; omega)
  clear hby
  obtain ⟨A, c, h0, h1, f0, f1, h3, h4, ha, hC⟩ := h.cells
  have d1 : decide ((n : Int) < 1) = false := decide_eq_false (by omega)
  have d1b : decide (8 < (n : Int)) = false := decide_eq_false (by omega)
  have d6 : (a : Int) + n = b := by omega
  have d7 : wrap64 (b : Int) = b := by unfold wrap64; omega
  have d2 : IntKind.i64.wrap ((l.length : Int) - a) = l.length - a := by rw [IntKind.wrap_i64]; omega
  have d3 : decide ((l.length : Int) - a < n) = false := decide_eq_false (by omega)
  have d4 : wrap64 ((a : Int) + n) = b := by unfold wrap64; omega
  have d5 : IntKind.i64.wrap ((b : Int) - n) = a := by rw [IntKind.wrap_i64]; omega
  have HST := Aside0.mk h
  have HAB := Aside0.mk (show a ≤ b by omega)
  have HBL := Aside0.mk hb
  have HBS := Aside0.mk (show bs = (l.drop a).take (b - a) by rw [hbs, hab, Nat.add_sub_cancel_left])
  clear h hC hab hb hbs
  go_enter Try.func30, Try.ntmps30
  go_wp2_with fail
  repeat (go_quiet (fail))
  have HB1 := Aside0.mk (below_drewN (Below.refl w.heap.size w) nq)
  have HS1 := Aside0.mk (HST.out.below HB1.out)
  obtain ⟨k0, k1, k2, k3⟩ := pt_kept HB1.out h0 h1 f0 f1 (pt_lt HST.out)
  clear h0 h1 f0 f1
  obtain ⟨A1, c1, hcut⟩ := pt_cut HS1.out k0 HAB.out HBL.out HBS.out
  have HC := Aside0.mk hcut
  have HO := Aside0.mk (only_set (B := B) HB1.out (.int .i64 b))
  clear hcut
  generalize hWX : w.drewN nq = w1 at *
  clear hWX
  go_wp2_with fail
  generalize hWX : w1.setCell ⟨B, 1, none⟩ (.int .i64 b) = w2 at *
  clear hWX k0 k1 k2 k3 HS1 HB1
  have x0 := HC.out.x0
  have x1 := HC.out.x1
  have hq := HC.out.cut.cut
  go_quiet (first | (go_at_call 48; exact Calls.quiet_of_same ((value_calls A1 c1 bs _ (HC.out.cut.read _ (below_drewN (Below.refl _ _) _)) HL8.out HBY.out).mono (fun _ _ h => ⟨h.1, h.2.symm⟩))))
  go_wp2_with fail
  go_ret2
  exact ⟨rfl, HC.out.st.below (below_drewN (Below.refl _ _) _), only_then HO.out (below_drewN (Below.refl _ _) _)⟩
/-- what Bytes answers here too -/
theorem pbytes_calls (k : Nat) (B base : Nat) (l : List Int) (a : Nat) (n : Int) (w : World) (h : PtSt w base B l a) (bs : List Int) (er : Int) (bs' : List Int) (hr : bytesR (l.drop a) n = (bs, er, bs')) (hf : tappetref01_Copy.f k bs = some bs) :
    Calls Try.prog 32 #[.pointer (some ⟨B, 0, none⟩), .int .i64 n] w fun e w' => ∃ v, e = .returned (.tuple #[v, .int .i64 er]) ∧ (Kd.int .u8).R 5 w' w.heap.size (fun _ => True) v bs ∧ (∃ b, PtSt w' base B l b ∧ bs' = l.drop b) ∧ RdOnly w w' B := by
  obtain ⟨_, _, _, _, _, _, _, _, ha, _⟩ := h.cells
  have hl : (l.drop a).length = l.length - a := List.length_drop
  unfold bytesR at hr
  by_cases h1 : n < 0
  · rw [if_pos h1] at hr
    simp only [Prod.mk.injEq] at hr
    obtain ⟨rfl, rfl, rfl⟩ := hr
    refine (pbytes_neg B base l a n w h h1).mono ?_
    rintro e w' ⟨rfl, rfl⟩
    exact ⟨_, rfl, Kd.R_nil _ _ _ _ _, ⟨a, h, rfl⟩, only_refl _ _⟩
  · rw [if_neg h1] at hr
    by_cases h2 : ((l.drop a).length : Int) < n
    · rw [if_pos h2] at hr
      simp only [Prod.mk.injEq] at hr
      obtain ⟨rfl, rfl, rfl⟩ := hr
      refine (pbytes_short B base l a n w h (by omega) (by omega)).mono ?_
      rintro e w' ⟨rfl, hB⟩
      exact ⟨_, rfl, Kd.R_nil _ _ _ _ _, ⟨a, h.below hB, rfl⟩, only_below hB⟩
    · rw [if_neg h2] at hr
      simp only [Prod.mk.injEq] at hr
      obtain ⟨m, rfl⟩ := Int.eq_ofNat_of_zero_le (by omega : 0 ≤ n)
      obtain ⟨e1, rfl, e3⟩ := hr
      refine (pbytes_yes k B base l a (a + m) m bs w h rfl (by omega) e1.symm hf).mono ?_
      rintro e w' ⟨v, rfl, hR, hS, hO⟩
      exact ⟨v, rfl, hR, ⟨a + m, hS, by rw [← e3, List.drop_drop]; rfl⟩, hO⟩
theorem pnumber_calls (B base : Nat) (l : List Int) (a : Nat) (n : Int) (w : World) (h : PtSt w base B l a) (hby : ∀ x ∈ l, 0 ≤ x ∧ x ≤ 255) (v er : Int) (bs' : List Int) (hr : numR (l.drop a) n = (v, er, bs')) :
    Calls Try.prog 30 #[.pointer (some ⟨B, 0, none⟩), .int .i64 n] w fun e w' => e = .returned (.tuple #[.int .u64 v, .int .i64 er]) ∧ (∃ b, PtSt w' base B l b ∧ bs' = l.drop b) ∧ RdOnly w w' B := by
  obtain ⟨_, _, _, _, _, _, _, _, ha, _⟩ := h.cells
  have hl : (l.drop a).length = l.length - a := List.length_drop
  unfold numR at hr
  by_cases h1 : n < 1 ∨ 8 < n
  · rw [if_pos h1] at hr
    simp only [Prod.mk.injEq] at hr
    obtain ⟨rfl, rfl, rfl⟩ := hr
    refine (pnumber_arg B base l a n w h h1).mono ?_
    rintro e w' ⟨rfl, rfl⟩
    exact ⟨rfl, ⟨a, h, rfl⟩, only_refl _ _⟩
  · rw [if_neg h1] at hr
    by_cases h2 : ((l.drop a).length : Int) < n
    · rw [if_pos h2] at hr
      simp only [Prod.mk.injEq] at hr
      obtain ⟨rfl, rfl, rfl⟩ := hr
      refine (pnumber_short B base l a n w h (by omega) (by omega)).mono ?_
      rintro e w' ⟨rfl, hB⟩
      exact ⟨rfl, ⟨a, h.below hB, rfl⟩, only_below hB⟩
    · rw [if_neg h2] at hr
      simp only [Prod.mk.injEq] at hr
      obtain ⟨m, rfl⟩ := Int.eq_ofNat_of_zero_le (by omega : 0 ≤ n)
      obtain ⟨rfl, rfl, e3⟩ := hr
      refine (pnumber_yes B base l a (a + m) m ((l.drop a).take m) w h (by omega) rfl (by omega) rfl (fun x hx => hby x (List.mem_of_mem_drop (List.mem_of_mem_take hx)))).mono ?_
      rintro e w' ⟨rfl, hS, hO⟩
      exact ⟨rfl, ⟨a + m, hS, by rw [← e3, List.drop_drop]; rfl⟩, hO⟩
end Go.Proofs.Ytbhlalnpefijkaa
