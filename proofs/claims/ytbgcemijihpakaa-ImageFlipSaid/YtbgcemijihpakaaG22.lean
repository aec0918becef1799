/- the check sum, in plain Lean: a state of 16 bits, a step; the sum is linear, and its step loses nothing. -/
import Derived.Test.YtbgcemijihpakaaG21
import Derived.Test.YtbgcemijihpakaaG20
import Derived.Lib.SlBytesConst
import Derived.ArgAppend
section
namespace Go.Proofs.Ytbgcemijihpakaa.XA
set_option linter.unusedVariables false
set_option linter.unusedSimpArgs false
open Go.RowKit Go.Proofs.YtbgcemijihpakaaW.PrintWords Go.Proofs.YtbgcemijihpakaaW.PrintLast

/-! ### steps -/
def st (r : BitVec 16) : BitVec 16 := (r <<< 1) ^^^ (if r.msb then 4129#16 else 0#16)
def stN : Nat → BitVec 16 → BitVec 16
 | 0, r => r
 | k + 1, r => stN k (st r)
theorem xor_pp (x y p : BitVec 16) : (x ^^^ p) ^^^ (y ^^^ p) = x ^^^ y := by
 rw [BitVec.xor_comm y p, BitVec.xor_assoc, ← BitVec.xor_assoc p p y, BitVec.xor_self, BitVec.zero_xor]
theorem st_xor (a b : BitVec 16) : st (a ^^^ b) = st a ^^^ st b := by
 unfold st
 rw [BitVec.shiftLeft_xor_distrib, BitVec.msb_xor]
 cases a.msb <;> cases b.msb
 ·simp
 ·simp [BitVec.xor_assoc]
 ·simp only [Bool.xor_false, if_true, Bool.false_eq_true, if_false, BitVec.xor_zero]
  rw [BitVec.xor_assoc, BitVec.xor_comm (b <<< 1), ← BitVec.xor_assoc]
 ·simp only [Bool.xor_self, Bool.false_eq_true, if_true, if_false, BitVec.xor_zero]
  rw [xor_pp]
theorem stN_xor : ∀ (k : Nat) (a b : BitVec 16), stN k (a ^^^ b) = stN k a ^^^ stN k b
 | 0, _, _ => rfl
 | k + 1, a, b => by rw [stN, st_xor, stN_xor k]; rfl
theorem stN_stN : ∀ (a b : Nat) (r : BitVec 16), stN a (stN b r) = stN (b + a) r
 | a, 0, r => by rw [Nat.zero_add]; rfl
 | a, b + 1, r => by rw [stN, stN_stN a b, Nat.add_right_comm]; rfl
theorem st_zero (r : BitVec 16) (h : st r = 0#16) : r = 0#16 := by
 unfold st at h
 cases hm : r.msb with
 | true =>
  rw [hm] at h
  have := congrArg (fun x : BitVec 16 => x.getLsbD 0) h
  simp at this
 | false =>
  rw [hm] at h
  simp only [Bool.false_eq_true, if_false, BitVec.xor_zero] at h
  apply BitVec.eq_of_getLsbD_eq
  intro i hi
  rcases Nat.lt_or_ge i 15 with h15 | h15
  ·have := congrArg (fun x : BitVec 16 => x.getLsbD (i + 1)) h
   simp [hi] at this
   rw [BitVec.getLsbD_zero]
   exact this (by omega)
  ·obtain rfl : i = 15 := by omega
   rw [BitVec.msb_eq_getLsbD_last] at hm
   simpa using hm
theorem stN_zero : ∀ (k : Nat) (r : BitVec 16), stN k r = 0#16 → r = 0#16
 | 0, _, h => h
 | k + 1, r, h => st_zero r (stN_zero k _ h)
/-! ### the sum of a row -/
def wordOf (x : Int) : BitVec 16 := BitVec.ofNat 16 (x.toNat * 256)
def crcB (r : BitVec 16) (l : List Int) : BitVec 16 := l.foldl (fun r x => stN 8 (r ^^^ wordOf x)) r
theorem crcB_cons (r : BitVec 16) (x : Int) (l : List Int) : crcB r (x :: l) = crcB (stN 8 (r ^^^ wordOf x)) l := rfl
theorem crcB_add (l : List Int) : ∀ (s r : BitVec 16), crcB (r ^^^ s) l = crcB r l ^^^ stN (8 * l.length) s := by
 induction l with
 | nil => intro s r; rfl
 | cons x l ih =>
  intro s r
  rw [crcB_cons, crcB_cons, BitVec.xor_assoc, BitVec.xor_comm s, ← BitVec.xor_assoc, stN_xor, ih, stN_stN, List.length_cons]
  congr 2
  omega
theorem crcB_set (y : Int) (D : BitVec 16) (l : List Int) : ∀ (q : Nat) (r : BitVec 16) (h : q < l.length), wordOf y = wordOf l[q] ^^^ D → crcB r (l.set q y) = crcB r l ^^^ stN (8 * (l.length - q)) D := by
 induction l with
 | nil => intro q r h; simp at h
 | cons x l ih =>
  intro q r h e
  cases q with
  | zero =>
   rw [List.set_cons_zero, crcB_cons, crcB_cons, e, List.getElem_cons_zero, ← BitVec.xor_assoc, stN_xor, crcB_add, stN_stN]
   congr 2
   simp only [List.length_cons]
   omega
  | succ q =>
   rw [List.set_cons_succ, crcB_cons, crcB_cons, ih q _ (by simpa using h) (by simpa using e)]
   congr 2
   simp

/-! ### the program's sum -/
theorem wrap_u16 (n : Int) : IntKind.u16.wrap n = n % 65536 := by simp [IntKind.wrap, IntKind.bits, IntKind.signed]
theorem bits_xor16 (a b : BitVec 16) : Go.bits .xor .u16 (a.toNat : Int) (b.toNat : Int) = ((a ^^^ b).toNat : Int) := by
 unfold Go.bits
 simp only [IntKind.bits, BitVec.ofInt_natCast, BitVec.ofNat_toNat, BitVec.setWidth_eq, wrap_u16]
 have := (a ^^^ b).isLt
 exact Int.emod_eq_of_lt (Int.natCast_nonneg _) (by show ((a ^^^ b).toNat : Int) < 65536; omega)
theorem shl_eq (r : BitVec 16) : IntKind.u16.wrap ((r.toNat : Int) * 2) = ((r <<< 1).toNat : Int) := by
 rw [wrap_u16, BitVec.toNat_shiftLeft, Nat.shiftLeft_eq]
 omega
theorem msb_if (r : BitVec 16) : (if r.msb then 4129#16 else 0#16).toNat = 4129 * (r.toNat / 32768) := by
 have h := r.isLt
 rw [BitVec.msb_eq_decide]
 by_cases c : 2 ^ (16 - 1) ≤ r.toNat
 ·rw [decide_eq_true c, if_pos rfl, show r.toNat / 32768 = 1 by omega]
  rfl
 ·rw [decide_eq_false c, if_neg (by simp), show r.toNat / 32768 = 0 by omega]
  rfl
theorem step_eq (r : BitVec 16) : Go.bits .xor .u16 (IntKind.u16.wrap ((r.toNat : Int) * 2)) (IntKind.u16.wrap (4129 * ((r.toNat : Int) / 32768))) = ((st r).toNat : Int) := by
 have h := r.isLt
 rw [shl_eq, wrap_u16, show (4129 * ((r.toNat : Int) / 32768)) % 65536 = (((if r.msb then 4129#16 else 0#16).toNat : Nat) : Int) by rw [msb_if]; omega, bits_xor16]
 rfl
theorem word_eq (x : Int) (h : 0 ≤ x ∧ x ≤ 255) : IntKind.u16.wrap ((IntKind.u16.wrap x) * 256) = ((wordOf x).toNat : Int) := by
 unfold wordOf
 rw [wrap_u16, wrap_u16, BitVec.toNat_ofNat]
 omega
theorem wr_in (n : Int) (h : -9223372036854775808 ≤ n ∧ n ≤ 9223372036854775807) : wrap64 n = n := by unfold wrap64; omega
theorem nextI (i : Nat) (h : i < 9223372036854775807) : wrap64 ((i : Int) + 1) = ((i + 1 : Nat) : Int) := by rw [wr_in _ (by omega)]; rfl
theorem crc_l2 (x9 : List (List Int)) (x10 x11 : Int) (x15 : List Int) (x16 x17 : Int) : ∀ (d i k : Nat) (r : BitVec 16), i + d = 8 → octet_Crc.l2 (k + d + 1) (r.toNat : Int) x9 x10 x11 x15 x16 x17 (i : Int) = octet_Crc.l1 k ((stN d r).toNat : Int) x9 x10 x11 x15 x16 (wrap64 (x17 + 1))
 | 0, i, k, r, h => by
  rw [octet_Crc.l2, if_neg (by omega)]
  rfl
 | d + 1, i, k, r, h => by
  rw [octet_Crc.l2, if_pos (by omega), step_eq, nextI i (by omega)]
  exact crc_l2 x9 x10 x11 x15 x16 x17 d (i + 1) k (st r) (by omega)
theorem crc_l1 (x9 : List (List Int)) (x10 x11 : Int) (l : List Int) (hl : ∀ x ∈ l, 0 ≤ x ∧ x ≤ 255) (hb : l.length < 9223372036854775807) : ∀ (d i k : Nat) (r : BitVec 16), i + d = l.length → octet_Crc.l1 (k + 10 * d + 1) (r.toNat : Int) x9 x10 x11 l (l.length : Int) (i : Int) = octet_Crc.l0 k ((crcB r (l.drop i)).toNat : Int) x9 x10 (wrap64 (x11 + 1))
 | 0, i, k, r, h => by
  rw [octet_Crc.l1, if_neg (by omega), List.drop_eq_nil_of_le (by omega)]
  rfl
 | d + 1, i, k, r, h => by
  have hi : i < l.length := by omega
  have hrd : rd l (i : Int) = l[i] := by
   unfold rd
   rw [Int.toNat_natCast, List.getD_eq_getElem?_getD, List.getElem?_eq_getElem hi]
   rfl
  rw [show k + 10 * (d + 1) + 1 = (k + 10 * d + 1) + 8 + 1 + 1 by omega, octet_Crc.l1, if_pos (by omega), if_pos (by omega), if_pos (by omega), hrd, word_eq _ (hl _ (List.getElem_mem hi)), bits_xor16]
  have := crc_l2 x9 x10 x11 l (l.length : Int) (i : Int) 8 0 (k + 10 * d + 1) (r ^^^ wordOf l[i]) rfl
  rw [show ((0 : Nat) : Int) = 0 from rfl] at this
  rw [this, nextI i (by omega), crc_l1 x9 x10 x11 l hl hb d (i + 1) k _ (by omega), List.drop_eq_getElem_cons hi, crcB_cons]
def fuelP (ps : List (List Int)) : Nat := (ps.map fun p => 10 * p.length + 2).sum
theorem fuelP_cons (x : List Int) (l : List (List Int)) : fuelP (x :: l) = 10 * x.length + 2 + fuelP l := by simp [fuelP]
theorem crcB_flat (r : BitVec 16) (x : List Int) (l : List (List Int)) : crcB r (x :: l).flatten = crcB (crcB r x) l.flatten := by simp [crcB, List.foldl_append]
theorem crc_l0 (ps : List (List Int)) (hp : ps.length < 9223372036854775807) (hps : ∀ l ∈ ps, l.length < 9223372036854775807 ∧ ∀ x ∈ l, 0 ≤ x ∧ x ≤ 255) : ∀ (d i k : Nat) (r : BitVec 16), i + d = ps.length → octet_Crc.l0 (k + fuelP (ps.drop i) + 1) (r.toNat : Int) ps (ps.length : Int) (i : Int) = some ((crcB r (ps.drop i).flatten).toNat : Int)
 | 0, i, k, r, h => by
  rw [octet_Crc.l0, if_neg (by omega), List.drop_eq_nil_of_le (by omega)]
  rfl
 | d + 1, i, k, r, h => by
  have hi : i < ps.length := by omega
  have hrd : rd_L14 ps (i : Int) = ps[i] := by
   unfold rd_L14
   rw [Int.toNat_natCast, List.getD_eq_getElem?_getD, List.getElem?_eq_getElem hi]
   rfl
  obtain ⟨h1, h2⟩ := hps _ (List.getElem_mem hi)
  rw [List.drop_eq_getElem_cons hi]
  rw [fuelP_cons, crcB_flat, show k + (10 * ps[i].length + 2 + fuelP (ps.drop (i + 1))) + 1 = ((k + fuelP (ps.drop (i + 1)) + 1) + 10 * ps[i].length + 1) + 1 by omega, octet_Crc.l0, if_pos (by omega), if_pos (by omega), if_pos (by omega), hrd]
  have := crc_l1 ps (ps.length : Int) (i : Int) ps[i] h2 h1 ps[i].length 0 (k + fuelP (ps.drop (i + 1)) + 1) r (by omega)
  rw [show ((0 : Nat) : Int) = 0 from rfl] at this
  rw [this, nextI i (by omega), crc_l0 ps hp hps d (i + 1) k _ (by omega), List.drop_zero]
theorem crc_f (ps : List (List Int)) (hp : ps.length < 9223372036854775807) (hps : ∀ l ∈ ps, l.length < 9223372036854775807 ∧ ∀ x ∈ l, 0 ≤ x ∧ x ≤ 255) (k : Nat) : octet_Crc.f (k + fuelP ps + 1) ps = some ((crcB 65535#16 ps.flatten).toNat : Int) := by
 have := crc_l0 ps hp hps ps.length 0 k 65535#16 (by omega)
 exact this

end Go.Proofs.Ytbgcemijihpakaa.XA
end
section
namespace Go.Proofs.Ytbgcemijihpakaa.XA
set_option linter.unusedVariables false
set_option linter.unusedSimpArgs false
open Go.RowKit Go.WideMaps Go.Maps Go.Proofs.YtbgcemijihpakaaW.PrintWords Go.Proofs.YtbgcemijihpakaaW.PrintLast Go.Proofs.YtbgcemijihpakaaW.PrintMore
def magicV : Array Value := #[.int .u8 84, .int .u8 80, .int .u8 84, .int .u8 49]
def FirstSt (base B : Nat) (x : Int) (w : World) (k : Nat) (wr : World) : Prop := (k = 0 ∧ wr = w) ∨ (k = 1 ∧ ∃ v', WS wr base B v' ([84, 80, 84, 49] ++ leN 4 x) ∧ Kp base w wr B (.slice none 0 0))
theorem leN4_len (x : Int) (h : x / 2 ^ (8 * 4) = 0) : (leN 4 x).length = 4 := by unfold leN; rw [if_pos h]; simp
theorem row_of_own {k : IntKind} {e base : Nat} {w : World} {v : Value} {xs : List Int} {inner : List Value} (h : w.ownsRow base e 1 v xs.length inner) (hi : inner = xs.map (Value.int k)) : (Kd.int k).R e w base (fun _ => True) v xs := by
 subst hi
 exact Kd.R_of_own (enc := Value.int k) (h1 := fun _ => rfl) (by simpa [encs] using h) (fun _ _ => trivial)
theorem cells_box2 {w : World} {g T : Nat} {fr : Nat × Nat} {cs : Array Value} (h : w.heap[g]? = some (.cells cs T fr)) : ∀ j v, cs.toList[j]? = some v → w.cell? ((⟨g, 0, none⟩ : Addr).add j) = some v := fun j v hj => by
 rw [add_z]
 simp only [World.cell?, h]
 simpa using hj
theorem news_of {w : World} {ad : Addr} {l : List Int} (h : ∀ j, j < l.length → w.cell? (ad.add j) = some (.int .u8 (l.getD j 0))) : ∀ j u, (l.map (Value.int .u8))[j]? = some u → w.cell? (ad.add j) = some u := fun j u hj => by
 rw [List.getElem?_map] at hj
 obtain ⟨x, hx, rfl⟩ := Option.map_eq_some_iff.mp hj
 have hl := (List.getElem?_eq_some_iff.mp hx).1
 rw [h j hl, List.getD_eq_getElem?_getD, hx]
 rfl
set_option maxRecDepth 1000000 in
set_option maxHeartbeats 4000000 in
theorem put_first (B base g gv : Nat) (x : Int) (w : World) (hB : base ≤ B) (hbox : w.heap[B]? = some (.cells #[.slice (some ⟨g, 0, none⟩) 4 4] 59 (0, 0))) (hm : w.heap[g]? = some (.cells magicV 5 (4, 5)))
  (hv : w.heap[gv]? = some (.cells #[.int .u64 x] 62 (0, 0))) (h0 : 0 ≤ x) (h1 : x ≤ 4294967295) :
  Calls Try.prog 21 #[.pointer (some ⟨B, 0, none⟩), .int .i64 4, .slice (some ⟨gv, 0, none⟩) 1 1] w fun e w' => ∃ v', e = .returned (.tuple #[]) ∧ WS w' base B v' ([84, 80, 84, 49] ++ leN 4 x) ∧ Kp base w w' B (.slice none 0 0) := by
 have HBX := Aside0.mk hbox
 have HMG := Aside0.mk hm
 have HVV := Aside0.mk hv
 have HBB := Aside0.mk hB
 have H0 := Aside0.mk h0
 have H1 := Aside0.mk h1
 clear hbox hm hv hB h0 h1
 obtain ⟨i0, hi, hz0, hz1, hz2⟩ := info_parts info5
 go_enter Try.func21, Try.ntmps21
 go_wp2_with fail
 go_loopg [7, 8, 9, 12] 1 (fun gg s7 s8 s9 i wr => ∃ k : Nat, gg = 1 - k ∧ i = .int .i64 k ∧ Aside0 (FirstSt base B x w k wr))
 case atStart => exact ⟨0, rfl, rfl, ⟨.inl ⟨rfl, rfl⟩⟩⟩
 case round =>
  obtain ⟨k, rfl, rfl, HF⟩ := hrel
  rcases HF.out with ⟨rfl, rfl⟩ | ⟨rfl, v', W1, K1⟩
  ·clear HF
   have hc := (cells_box (cs := [.int .u64 x]) HVV.out) 0 _ rfl
   rw [add_z] at hc
   have hx0 := H0.out
   go_wp2_with fail
   refine (number_calls x 4 wr H0.out (by have := H1.out; omega) (by omega) (by omega)).mono ?_
   rintro e w1 ⟨v1, er, rfl, R1, B1⟩
   have HBX1 := Aside0.mk ((B1.block B (blk_lt HBX.out)).trans HBX.out)
   have HMG1 := Aside0.mk ((B1.block g (blk_lt HMG.out)).trans HMG.out)
   have HK1 := Aside0.mk B1
   obtain ⟨A1, c1, rfl, hc1, hC1⟩ := Kd.R_reads R1
   have h4 : (leN 4 x).length = 4 := leN4_len x (Int.ediv_eq_zero_of_lt H0.out (by have := H1.out; omega))
   obtain ⟨ad, rfl, hcs⟩ := (Kd.reads_of_C (d := (0 : Int)) hC1).2.2 (by omega)
   have HCS := Aside0.mk hcs
   have H4 := Aside0.mk h4
   rw [h4]
   have hcell : w1.cell? ⟨B, 0, none⟩ = some (.slice (some ⟨g, 0, none⟩) 4 4) := by simp [World.cell?, HBX1.out]
   clear B1 R1 hc1 hC1 hc h4 hcs
   go_wp2_with (first | (at_builtin; refine wpList_append_grows w1 rfl (.tmp 26) (.tmp 27) 34 rfl 5 i0 (.int .u8 0) 1 1 Try.underlying34 hi hz0 hz1 hz2 rfl (by omega) (some ⟨g, 0, none⟩) 4 4 magicV.toList rfl (by simp) rfl ?ho ad 4 c1 ((leN 4 x).map (Value.int .u8)) rfl (by simp [H4.out]) ?hnw (by simp [Value.oneCell']) (by omega) (by decide) (by decide) ?_; (case ho => intro b hb j u hj; injection hb with hb; subst hb; exact cells_box2 HMG1.out j u hj); (case hnw => exact fun j u hj => news_of HCS.out j u hj); intro v2 w2 HO2 HG2; have HR2 := row_of_own (k := .u8) (xs := [84, 80, 84, 49] ++ leN 4 x) (by simpa [H4.out] using HO2) (by simp [magicV]); obtain ⟨A2, n2, c2, hv2⟩ : ∃ A n c, v2 = .slice A n c := (by obtain ⟨A, c, h⟩ := Kd.R_slice HR2; exact ⟨A, _, c, h⟩); subst hv2; have HRR := Aside0.mk HR2; have HGG := Aside0.mk HG2; have hb2 := (HG2.block B (blk_lt HBX1.out) (by simp)).trans HBX1.out; have HBX2 := Aside0.mk hb2; have hcell2 : w2.cell? ⟨B, 0, none⟩ = some (.slice (some ⟨g, 0, none⟩) 4 4) := (by simp [World.cell?, hb2]); have hfr2 : w2.frozen? ⟨B, 0, none⟩ = false := (by simp [World.frozen?, hb2]); clear HO2 HG2 HR2 hb2))
   have HLO := Aside0.mk (show base ≤ w1.heap.size from by have := HBB.out; have := blk_lt HBX1.out; omega)
   have B2 : Below w1.heap.size w1 w2 := ⟨HGG.out.os, HGG.out.tape, HGG.out.output, HGG.out.size, fun k hk => HGG.out.block k hk (by simp)⟩
   have HKP := Aside0.mk (show Kp base wr (w2.setCell ⟨B, 0, none⟩ (.slice A2 n2 c2)) B (.slice none 0 0) from
    ⟨((HK1.out.mono (by have := HBB.out; have := blk_lt HBX.out; omega)).trans (B2.mono HLO.out)).setCell HBB.out _, fun k hk hne _ => by
     rw [Below.heap_setCell w2 ⟨B, 0, none⟩ _ k hne]
     exact (HGG.out.block k (by have := HK1.out.size; omega) (by simp)).trans (HK1.out.block k hk)⟩)
   have HWS := Aside0.mk (show WS (w2.setCell ⟨B, 0, none⟩ (.slice A2 n2 c2)) base B (.slice A2 n2 c2) ([84, 80, 84, 49] ++ leN 4 x) from
    ⟨by simp [World.setCell, Array.getElem?_modify, HBX2.out], HBB.out, Kd.R_set (Kd.R_lower HRR.out HLO.out) HBX2.out (by intro q hq; have : q = 5 := (by simpa [Kd.int, Kd.scalar] using hq); omega) 0 _⟩)
   clear B2 hcell hcell2 hfr2
   go_roundg 0
   case measure => omega
   case rel => exact ⟨1, rfl, rfl, ⟨.inr ⟨rfl, _, HWS.out, HKP.out⟩⟩⟩
  ·clear HF
   have HW := Aside0.mk W1
   have HK := Aside0.mk K1
   clear W1 K1
   go_wp2_with fail
   go_end0
   exact ⟨v', rfl, HW.out, HK.out⟩
end Go.Proofs.Ytbgcemijihpakaa.XA
end
