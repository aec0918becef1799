/- octet.Number: the contract. -/
import Derived.Test.YtbgcemijihpakaaG15
section
namespace Go.Proofs.Ytbgcemijihpakaa.XA
set_option linter.unusedVariables false
set_option linter.unusedSimpArgs false
open Go.RowKit Go.WideMaps Go.Maps Go.Proofs.YtbgcemijihpakaaW.PrintWords Go.Proofs.YtbgcemijihpakaaW.PrintLast Go.Proofs.YtbgcemijihpakaaW.PrintMore
/-- the n bytes of a number, the lowest first; none where it has not room -/
def leN (n : Nat) (x : Int) : List Int := if x / 2 ^ (8 * n) = 0 then (List.range n).map (fun i => x / 2 ^ (8 * i) % 256) else []
theorem leN_len (n : Nat) (x : Int) : (leN n x).length ≤ n := by unfold leN; split <;> simp
theorem leN_bytes (n : Nat) (x : Int) : ∀ b ∈ leN n x, 0 ≤ b ∧ b ≤ 255 := by
 intro b hb
 unfold leN at hb
 split at hb
 ·obtain ⟨i, _, rfl⟩ := List.mem_map.mp hb
  omega
 ·cases hb
def filled (n k : Nat) (x : Int) : List Int := (List.range n).map (fun i => if i < k then x / 2 ^ (8 * i) % 256 else 0)
theorem filled_len (n k : Nat) (x : Int) : (filled n k x).length = n := by unfold filled; simp
theorem filled_zero (n : Nat) (x : Int) : List.replicate n 0 = filled n 0 x := by
 unfold filled
 apply List.ext_getElem
 ·simp
 ·intro i h1 h2
  simp
theorem filled_set (n k : Nat) (x : Int) (h : k < n) : (filled n k x).set k (x / 2 ^ (8 * k) % 256) = filled n (k + 1) x := by
 unfold filled
 apply List.ext_getElem
 ·simp
 ·intro i h1 h2
  by_cases e : k = i
  ·subst e
   simp
  ·rw [List.getElem_set_ne e]
   simp only [List.getElem_map, List.getElem_range]
   by_cases c : i < k
   ·rw [if_pos c, if_pos (by omega)]
   ·rw [if_neg c, if_neg (by omega)]
theorem filled_all (n : Nat) (x : Int) (h : x / 2 ^ (8 * n) = 0) : filled n n x = leN n x := by
 unfold filled leN
 rw [if_pos h]
 apply List.map_congr_left
 intro i hi
 rw [if_pos (List.mem_range.mp hi)]
def fitB (n : Nat) (x : Int) : Bool := x / 2 ^ (8 * n) == 0
set_option maxRecDepth 1000000 in
set_option maxHeartbeats 4000000 in
theorem number_calls (x : Int) (n : Nat) (w : World) (h0 : 0 ≤ x) (h1 : x ≤ 18446744073709551615) (hn1 : 1 ≤ n) (hn8 : n ≤ 8) :
  Calls Try.prog 86 #[.int .u64 x, .int .i64 n] w fun e w' => ∃ v er, e = .returned (.tuple #[v, .int .i64 er]) ∧ (Kd.int .u8).R 5 w' w.heap.size (fun _ => True) v (leN n x) ∧ Below w.heap.size w w' := by
 have H0 := Aside0.mk h0
 have H1 := Aside0.mk h1
 have d1 : decide (n < 1) = false := decide_eq_false (by omega)
 have d1' : decide ((n : Int) < 1) = false := decide_eq_false (by omega)
 have d8 : decide (8 < n) = false := decide_eq_false (by omega)
 have d8' : decide ((8 : Int) < (n : Int)) = false := decide_eq_false (by omega)
 have hw : IntKind.i64.wrap (8 * (n : Int)) = 8 * (n : Int) := IntWalk.i64_in _ (by omega)
 have HN1 := Aside0.mk hn1
 have HN8 := Aside0.mk hn8
 clear h0 h1 hn1
 go_enter Try.func86, Try.ntmps86
 go_upto_region 1 with fail
 go_cut [24] (fun s wx => s = .bool (!fitB n x) ∧ wx = w)
 case first => as_aux_lemma =>
  by_cases hn : n < 8
  ·have e8 : decide (n < 8) = true := decide_eq_true hn
   have e8' : decide ((n : Int) < 8) = true := decide_eq_true (by omega)
   by_cases hx : x / 2 ^ (8 * n) = 0
   ·have bx : (x / 2 ^ (8 * n) != 0) = false := by rw [bne_eq_false_iff_eq]; exact hx
    have HK := Aside0.mk (show fitB n x = true from by unfold fitB; rw [beq_iff_eq]; exact hx)
    clear hx
    go_wp2_with fail
    go_meet
    exact ⟨by rw [HK.out] <;> rfl, rfl⟩
   ·have bx : (x / 2 ^ (8 * n) != 0) = true := by rw [bne_iff_ne]; exact hx
    have HK := Aside0.mk (show fitB n x = false from by unfold fitB; rw [beq_eq_false_iff_ne]; exact hx)
    clear hx
    go_wp2_with fail
    go_meet
    exact ⟨by rw [HK.out] <;> rfl, rfl⟩
  ·obtain rfl : n = 8 := by omega
   have HK := Aside0.mk (show fitB 8 x = true from by
    unfold fitB
    rw [beq_iff_eq]
    have h1 := H1.out
    exact Int.ediv_eq_zero_of_lt H0.out (by omega))
   go_wp2_with fail
   go_meet
   exact ⟨by rw [HK.out] <;> rfl, rfl⟩
 case rest =>
  obtain ⟨rfl, rfl⟩ := hcut
  rcases hf : fitB n x with _ | _
  ·have HK := Aside0.mk (show leN n x = [] from by unfold leN; rw [if_neg (by unfold fitB at hf; exact beq_eq_false_iff_ne.mp hf)])
   clear hf
   go_wp2_with fail
   go_ret2
   exact ⟨_, _, rfl, by rw [HK.out]; exact Kd.R_nil _ _ _ _ _, Below.refl _ _⟩
  ·have HK := Aside0.mk (show x / 2 ^ (8 * n) = 0 from by unfold fitB at hf; exact beq_iff_eq.mp hf)
   clear hf
   go_upto_region 4 with (first | ((with_reducible refine gate_dst (N := 26) rfl ?_); refine Kd.R_make (Kd.int .u8) wc.heap.size 5 rfl (N := 26) rfl 34 _ _ rfl (n : Int) rfl rfl Try.underlying34 (.int .u8 0) 1 info5 rfl (by decide) (by omega) 0 (ok := fun _ => True) (okp := fun _ => True) rfl (fun _ hk => hk) trivial (by omega) (by simp only [Int.toNat_natCast]; omega) (Below.refl _ _) (Nat.le_refl _) ?_; intro v3 w3 HR3 HB3 HG3 HA3; clear HG3 HA3; rw [Int.toNat_natCast, filled_zero n x] at HR3; have HO := Aside0.mk HR3; have HB := Aside0.mk HB3; clear HR3 HB3))
   obtain ⟨A3, c3, hA3, hc3, hC3⟩ := Kd.R_reads HO.out
   rw [filled_len] at hA3
   subst hA3
   clear hc3 hC3
   go_wp2_with fail
   go_loopg [7, 29] n (fun g s7 i wr => ∃ k : Nat, k ≤ n ∧ g = n - k ∧ i = .int .i64 k ∧ Aside0 ((Kd.int .u8).R 5 wr wc.heap.size (fun _ => True) (.slice A3 n c3) (filled n k x)) ∧ Aside0 (Below wc.heap.size wc wr))
   case atStart => exact ⟨0, by omega, rfl, rfl, HO, HB⟩
   case round =>
    clear HO HB
    obtain ⟨k, hk, rfl, rfl, HO, HB⟩ := hrel
    by_cases hlt : k < n
    ·have hd : decide ((k : Int) < (n : Int)) = true := decide_eq_true (by omega)
     have HLT := Aside0.mk hlt
     have hwk : IntKind.i64.wrap (8 * (k : Int)) = 8 * (k : Int) := IntWalk.i64_in _ (by omega)
     obtain ⟨go, co, eo, gb, gl, cl, HG⟩ := Kd.R_form HO.out (by rw [filled_len]; omega)
     rw [filled_len] at eo
     injection eo with eo1 _ eo2
     subst eo1
     subst eo2
     have GB := Aside0.mk gb
     have p9 : (0 : Int) ≤ (k : Int) := by omega
     have q9 : (k : Int) < (n : Int) := by omega
     obtain ⟨hx9, hf9⟩ := Kd.R_celln 0 HO.out (k : Int) p9 q9
     have HPG := Aside0.mk (Kd.R_putg HO.out (k : Int) (x / 2 ^ (8 * k) % 256))
     rw [Int.toNat_natCast] at hx9 hf9 HPG
     have HFS := Aside0.mk (filled_set n k x hlt)
     rw [HFS.out] at HPG
     generalize rdOf 0 (filled n k x) (k : Int) = old at *
     clear HG gb gl HFS HO p9 q9
     go_upto_region 8 with fail
     have HB5 := Aside0.mk (show Below wc.heap.size wc (wr.setCell ⟨go, k, none⟩ (.int .u8 (x / 2 ^ (8 * k) % 256))) from below_set HB.out GB.out)
     have HO5 := Aside0.mk HPG.out.1
     clear HPG hx9 hf9
     generalize wr.setCell ⟨go, k, none⟩ (.int .u8 (x / 2 ^ (8 * k) % 256)) = w5 at *
     go_wp2_with fail
     go_roundg (n - (k + 1))
     case measure => have := HLT.out; omega
     case rel => exact ⟨k + 1, HLT.out, rfl, by go_num, HO5, HB5⟩
    ·have hd : decide ((k : Int) < (n : Int)) = false := decide_eq_false (by omega)
     obtain rfl : k = n := by omega
     have HK2 := Aside0.mk (filled_all k x HK.out)
     rw [HK2.out] at HO
     go_wp2_with fail
     go_ret2
     exact ⟨_, _, rfl, HO.out, HB.out⟩
end Go.Proofs.Ytbgcemijihpakaa.XA
end
section
namespace Go.Proofs.Ytbgcemijihpakaa.XA
set_option linter.unusedVariables false
set_option linter.unusedSimpArgs false
open Go.RowKit Go.WideMaps Go.Maps Go.Proofs.YtbgcemijihpakaaW.PrintWords Go.Proofs.YtbgcemijihpakaaW.PrintLast Go.Proofs.YtbgcemijihpakaaW.PrintMore
/-- block B is a writer that holds the bytes bs, in a row v of its own -/
structure WS (w : World) (base B : Nat) (v : Value) (bs : List Int) : Prop where
 box : w.heap[B]? = some (.cells #[v] 59 (0, 0))
 hB : base ≤ B
 row : (Kd.int .u8).R 5 w base (fun _ => True) v bs
/-- what is kept while a writer writes -/
structure Kp (base : Nat) (w w' : World) (B : Nat) (v : Value) : Prop where
 low : Below base w w'
 keep : ∀ k, k < w.heap.size → k ≠ B → v.ownBlock ≠ some k → w'.heap[k]? = w.heap[k]?
structure Wr (base : Nat) (w w' : World) (B : Nat) (v v' : Value) : Prop where
 kp : Kp base w w' B v
 fresh : v'.ownBlock = v.ownBlock ∨ ∀ k, v'.ownBlock = some k → w.heap.size ≤ k
theorem WS.lt {w : World} {base B : Nat} {v : Value} {bs : List Int} (h : WS w base B v bs) : B < w.heap.size := blk_lt h.box
theorem WS.ne {w : World} {base B : Nat} {v : Value} {bs : List Int} (h : WS w base B v bs) : some B ≠ v.ownBlock := Kd.R_ne h.row h.box (by decide)
theorem Wr.refl (base : Nat) (w : World) (B : Nat) (v : Value) : Wr base w w B v v := ⟨⟨Below.refl _ _, fun _ _ _ _ => rfl⟩, .inl rfl⟩
theorem Wr.trans {base B : Nat} {w w1 w2 : World} {v v1 v2 : Value} (h : Wr base w w1 B v v1) (h2 : Wr base w1 w2 B v1 v2) (hb : base ≤ w.heap.size) : Wr base w w2 B v v2 := by
 have hs := h.kp.low.size
 refine ⟨⟨h.kp.low.trans h2.kp.low, fun k hk hne hv => ?_⟩, ?_⟩
 ·refine (h2.kp.keep k (by omega) hne (fun e => ?_)).trans (h.kp.keep k hk hne hv)
  rcases h.fresh with f | f
  ·exact hv (f.symm.trans e)
  ·have := f k e; omega
 ·rcases h2.fresh with f | f
  ·rcases h.fresh with g | g
   ·exact .inl (f.trans g)
   ·exact .inr (fun k hk => g k (f ▸ hk))
  ·exact .inr (fun k hk => Nat.le_trans hs (f k hk))
theorem Wr.below {base B : Nat} {w w1 : World} {v : Value} (h : Below w.heap.size w w1) (hb : base ≤ w.heap.size) : Wr base w w1 B v v := ⟨⟨h.mono hb, fun k hk _ _ => h.block k hk⟩, .inl rfl⟩
theorem WS.below {w w1 : World} {base B : Nat} {v : Value} {bs : List Int} (h : WS w base B v bs) (hb : Below w.heap.size w w1) : WS w1 base B v bs := ⟨(hb.block B h.lt).trans h.box, h.hB, Kd.R_below h.row hb⟩
theorem put_step {w w1 : World} {base B : Nat} {v v1 : Value} {bs l : List Int} (h : WS w base B v bs) (hR : (Kd.int .u8).R 5 w1 base (fun _ => True) v1 (bs ++ l)) (hb : Below base w w1) (hg : w.grownBy w1 v.ownBlock)
  (ha : v1.ownBlock = v.ownBlock ∨ ∃ b, v1.ownBlock = some b ∧ w.heap.size ≤ b) : WS (w1.setCell ⟨B, 0, none⟩ v1) base B v1 (bs ++ l) ∧ Wr base w (w1.setCell ⟨B, 0, none⟩ v1) B v v1 := by
 have hbox : w1.heap[B]? = some (.cells #[v] 59 (0, 0)) := (hg.block B h.lt h.ne).trans h.box
 refine ⟨⟨?_, h.hB, Kd.R_set hR hbox (by intro q hq; have : q = 5 := (by simpa [Kd.int, Kd.scalar] using hq); omega) 0 v1⟩, ⟨⟨hb.setCell h.hB _, fun k hk hne hv => ?_⟩, ?_⟩⟩
 ·simp [World.setCell, Array.getElem?_modify, hbox]
 ·rw [Below.heap_setCell w1 ⟨B, 0, none⟩ _ k hne]
  exact hg.block k hk (fun e => hv e.symm)
 ·rcases ha with e | ⟨b, e, hlt⟩
  ·exact .inl e
  ·exact .inr (fun k hk => by rw [e] at hk; injection hk with hk; omega)
theorem flat_len (n : Nat) (vs : List Int) : (vs.flatMap (leN n)).length ≤ n * vs.length := by
 induction vs with
 | nil => simp
 | cons x vs ih =>
  have := leN_len n x
  simp only [List.flatMap_cons, List.length_append, List.length_cons, Nat.mul_add, Nat.mul_one]
  omega
set_option maxRecDepth 1000000 in
set_option maxHeartbeats 4000000 in
theorem put_calls (B base : Nat) (v : Value) (bs : List Int) (n : Nat) (A : Option Addr) (c : Nat) (vs : List Int) (w : World) (hW : WS w base B v bs) (hn1 : 1 ≤ n) (hn8 : n ≤ 8)
  (hl : ∀ w1, Kp base w w1 B v → (Kd.int .u64).C w1 A vs.length vs) (hc : vs.length ≤ c) (hv : ∀ x ∈ vs, 0 ≤ x ∧ x ≤ 18446744073709551615) (hlim : bs.length + 8 * vs.length ≤ 1099511627776) :
  Calls Try.prog 21 #[.pointer (some ⟨B, 0, none⟩), .int .i64 n, .slice A vs.length c] w fun e w' => ∃ v', e = .returned (.tuple #[]) ∧ WS w' base B v' (bs ++ vs.flatMap (leN n)) ∧ Wr base w w' B v v' := by
 have HL := Aside0.mk hl
 have HVV := Aside0.mk hv
 have HLIM := Aside0.mk hlim
 have HN1 := Aside0.mk hn1
 have HN8 := Aside0.mk hn8
 have HBS := Aside0.mk (show base ≤ w.heap.size from by have := hW.lt; have := hW.hB; omega)
 have HW := Aside0.mk hW
 have HR := Aside0.mk (Wr.refl base w B v)
 have hlen : vs.length ≤ 1099511627776 := by omega
 clear hW hl hv hn1 hn8 hlim
 go_enter Try.func21, Try.ntmps21
 go_wp2_with fail
 go_loopg [7, 8, 9, 12] vs.length (fun g s7 s8 s9 i wr => ∃ (k : Nat) (v' : Value), k ≤ vs.length ∧ g = vs.length - k ∧ i = .int .i64 k ∧ Aside0 (WS wr base B v' (bs ++ (vs.take k).flatMap (leN n))) ∧ Aside0 (Wr base w wr B v v'))
 case atStart => exact ⟨0, v, by omega, rfl, rfl, ⟨by simpa using HW.out⟩, HR⟩
 case round =>
  clear HW HR
  obtain ⟨k, v', hk, rfl, rfl, HW, HR⟩ := hrel
  by_cases hlt : k < vs.length
  ·have hd : decide ((k : Int) < (vs.length : Int)) = true := decide_eq_true (by omega)
   have HLT := Aside0.mk hlt
   obtain ⟨ad, rfl, hc0⟩ := (Kd.reads_of_C (d := (0 : Int)) (HL.out wr HR.out.kp)).2.2 (by omega)
   have hx := hc0 k hlt
   have HXB := Aside0.mk (HVV.out _ (getD_mem (d := (0 : Int)) hlt))
   have HFS := Aside0.mk (show (vs.take (k + 1)).flatMap (leN n) = (vs.take k).flatMap (leN n) ++ leN n (vs.getD k 0) from by
    rw [take_snoc vs k 0 hlt, List.flatMap_append]; simp)
   have HFL := Aside0.mk (show ((vs.take k).flatMap (leN n)).length ≤ 8 * vs.length from by
    have h1 := flat_len n (vs.take k)
    have h2 : (vs.take k).length ≤ vs.length := List.length_take_le' _ _
    have h3 : n * (vs.take k).length ≤ 8 * vs.length := Nat.mul_le_mul HN8.out h2
    omega)
   clear hc0
   generalize vs.getD k 0 = x at *
   go_wp2_with fail
   refine (number_calls x n wr HXB.out.1 HXB.out.2 HN1.out HN8.out).mono ?_
   rintro e w1 ⟨v1, er, rfl, R1, B1⟩
   replace HW := Aside0.mk (HW.out.below B1)
   have HB0 : base ≤ wr.heap.size := by have := HW.out.hB; have := HBS.out; have := HR.out.kp.low.size; omega
   replace HR := Aside0.mk (HR.out.trans (Wr.below B1 HB0) HBS.out)
   obtain ⟨A1, c1, rfl, hc1, hC1⟩ := Kd.R_reads R1
   have HC1 := Aside0.mk hC1
   have hcell : w1.cell? ⟨B, 0, none⟩ = some v' := by have := HW.out.box; simp [World.cell?, this]
   clear B1 R1 hc1 hC1 HB0 hx
   go_wp2_with (first | (at_builtin; refine Kd.R_append_row (w0 := w1) (Value.int .u8) (0 : Int) base rfl _ _ 34 5 (.int .u8 0) 1 rfl Try.underlying34 info5 rfl (by omega) v' (bs ++ (vs.take k).flatMap (leN n)) (leN n x) A1 (leN n x).length c1 (fun _ => True) rfl rfl (fun _ _ => trivial) HW.out.row HC1.out (Below.refl _ _) (by have := HW.out.hB; have := HW.out.lt; omega) ?hl ?_; (case hl => have := leN_len n x; have := HFL.out; have := HLIM.out; have := HN8.out; simp only [List.length_append]; omega); intro v2 w2 HR2 HB2 HG2 HA2; obtain ⟨A2, n2, c2, hv2⟩ : ∃ A n c, v2 = .slice A n c := (by obtain ⟨A, c, h⟩ := Kd.R_slice HR2; exact ⟨A, _, c, h⟩); subst hv2; have HP := Aside0.mk (put_step HW.out HR2 HB2 HG2 HA2); have hcell2 : w2.cell? ⟨B, 0, none⟩ = some v' := (by have := (HG2.block B HW.out.lt HW.out.ne).trans HW.out.box; simp [World.cell?, this]); have hfr2 : w2.frozen? ⟨B, 0, none⟩ = false := (by have := (HG2.block B HW.out.lt HW.out.ne).trans HW.out.box; simp [World.frozen?, this]); clear HR2 HB2 HG2 HA2))
   have HW2 := Aside0.mk HP.out.1
   have HR2 := Aside0.mk (HR.out.trans HP.out.2 HBS.out)
   rw [List.append_assoc, ← HFS.out] at HW2
   clear HP hcell hcell2 hfr2
   go_roundg (vs.length - (k + 1))
   case measure => have := HLT.out; omega
   case rel => exact ⟨k + 1, _, HLT.out, rfl, by go_num, HW2, HR2⟩
  ·have hd : decide ((k : Int) < (vs.length : Int)) = false := decide_eq_false (by omega)
   obtain rfl : k = vs.length := by omega
   rw [List.take_length] at HW
   go_wp2_with fail
   go_end0
   exact ⟨v', rfl, HW.out, HR.out⟩
end Go.Proofs.Ytbgcemijihpakaa.XA
end
section
namespace Go.Proofs.Ytbgcemijihpakaa.XA
set_option linter.unusedVariables false
set_option linter.unusedSimpArgs false
open Go.RowKit Go.WideMaps Go.Maps Go.Proofs.YtbgcemijihpakaaW.PrintWords Go.Proofs.YtbgcemijihpakaaW.PrintLast Go.Proofs.YtbgcemijihpakaaW.PrintMore
theorem WS.base {w : World} {base B : Nat} {v : Value} {bs : List Int} (h : WS w base B v bs) : base ≤ w.heap.size := by have := h.lt; have := h.hB; omega
theorem kept_new {k : IntKind} {w : World} {base B T : Nat} {v : Value} {bs cs : List Int} {ar : Array Value} (h : WS w base B v bs) (har : ar = (cs.map (Value.int k)).toArray) (hn : cs.length ≤ 9223372036854775807) :
  ∀ w1, Kp base (w.alloc (.cells ar T)) w1 B v → (Kd.int k).C w1 (some ⟨w.heap.size, 0, none⟩) cs.length cs := fun w1 hk => by
 have hlt := h.lt
 obtain ⟨inner, ho⟩ := Kd.R_own h.row
 have h1 := hk.keep w.heap.size (by simp) (by omega) (fun e => by have := own_lt ho _ e; omega)
 exact nums_of (T := T) (h1.trans (by rw [heap_alloc_new, har])) hn
theorem WS.new {w : World} {base B : Nat} {v : Value} {bs : List Int} (h : WS w base B v bs) (o : Obj) : WS (w.alloc o) base B v bs := h.below (below_a w o)
theorem Wr.new {w : World} {base B : Nat} {v : Value} {bs : List Int} (h : WS w base B v bs) (o : Obj) : Wr base w (w.alloc o) B v v := Wr.below (below_a w o) h.base
theorem flat_one (n : Nat) (x : Int) : [x].flatMap (leN n) = leN n x := by simp
def bytes1 (l : List Int) : List Int := l.flatMap (leN 1)
set_option maxRecDepth 1000000 in
set_option maxHeartbeats 4000000 in
theorem bytes_calls (B base : Nat) (v : Value) (bs : List Int) (A : Option Addr) (c : Nat) (vs : List Int) (w : World) (hW : WS w base B v bs)
  (hl : ∀ w1, Kp base w w1 B v → (Kd.int .i64).C w1 A vs.length vs) (hc : vs.length ≤ c) (hv : ∀ x ∈ vs, 0 ≤ x ∧ x ≤ 9223372036854775807) (hlim : bs.length + 8 * vs.length ≤ 1099511627760) :
  Calls Try.prog 23 #[.pointer (some ⟨B, 0, none⟩), .slice A vs.length c] w fun e w' => ∃ v', e = .returned (.tuple #[]) ∧ WS w' base B v' (bs ++ bytes1 vs) ∧ Wr base w w' B v v' := by
 have HL := Aside0.mk hl
 have HVV := Aside0.mk hv
 have HLIM := Aside0.mk hlim
 have HBS := Aside0.mk hW.base
 have HW := Aside0.mk hW
 have HR := Aside0.mk (Wr.refl base w B v)
 have hlen : vs.length ≤ 1099511627776 := by omega
 clear hW hl hv hlim
 go_enter Try.func23, Try.ntmps23
 go_wp2_with fail
 go_loopg [5, 8] vs.length (fun g s5 i wr => ∃ (k : Nat) (v' : Value), k ≤ vs.length ∧ g = vs.length - k ∧ i = .int .i64 k ∧ Aside0 (WS wr base B v' (bs ++ bytes1 (vs.take k))) ∧ Aside0 (Wr base w wr B v v'))
 case atStart => exact ⟨0, v, by omega, rfl, rfl, ⟨by simpa [bytes1] using HW.out⟩, HR⟩
 case round =>
  clear HW HR
  obtain ⟨k, v', hk, rfl, rfl, HW, HR⟩ := hrel
  by_cases hlt : k < vs.length
  ·have hd : decide ((k : Int) < (vs.length : Int)) = true := decide_eq_true (by omega)
   have HLT := Aside0.mk hlt
   obtain ⟨ad, rfl, hc0⟩ := (Kd.reads_of_C (d := (0 : Int)) (HL.out wr HR.out.kp)).2.2 (by omega)
   have hx := hc0 k hlt
   have hxb := HVV.out _ (getD_mem (d := (0 : Int)) hlt)
   have HFS := Aside0.mk (show bytes1 (vs.take (k + 1)) = bytes1 (vs.take k) ++ leN 1 (vs.getD k 0) from by
    unfold bytes1; rw [take_snoc vs k 0 hlt, List.flatMap_append]; simp)
   have HFL := Aside0.mk (show (bytes1 (vs.take k)).length ≤ 8 * vs.length from by
    have h1 := flat_len 1 (vs.take k)
    have h2 : (vs.take k).length ≤ vs.length := List.length_take_le' _ _
    unfold bytes1
    omega)
   clear hc0
   generalize vs.getD k 0 = x at *
   have hx0 := hxb.1
   have hx1 := hxb.2
   have HXB := Aside0.mk hxb
   clear hxb
   go_wp2_with fail
   have hcall := put_calls B base v' (bs ++ bytes1 (vs.take k)) 1 (some ⟨wr.heap.size, 0, none⟩) 1 [x] (wr.alloc (.cells #[.int .u64 x] 62)) (HW.out.new _) (by omega) (by omega) (kept_new (k := .u64) (cs := [x]) HW.out rfl (by simp)) (by simp) (by simp; have := HXB.out; omega) (by simp only [List.length_append, List.length_cons, List.length_nil]; have := HFL.out; have := HLIM.out; omega)
   have HCALL := Aside0.mk hcall
   clear hcall
   refine HCALL.out.mono ?_
   clear HCALL
   rintro e w2 ⟨v2, rfl, W2, R2⟩
   rw [flat_one, List.append_assoc, ← HFS.out] at W2
   have HW2 := Aside0.mk W2
   have HR2 := Aside0.mk (HR.out.trans ((Wr.new HW.out _).trans R2 HW.out.base) HBS.out)
   clear W2 R2 hx
   go_wp2_with fail
   go_roundg (vs.length - (k + 1))
   case measure => have := HLT.out; omega
   case rel => exact ⟨k + 1, _, HLT.out, rfl, by go_num, HW2, HR2⟩
  ·have hd : decide ((k : Int) < (vs.length : Int)) = false := decide_eq_false (by omega)
   obtain rfl : k = vs.length := by omega
   rw [List.take_length] at HW
   go_wp2_with fail
   go_end0
   exact ⟨v', rfl, HW.out, HR.out⟩
end Go.Proofs.Ytbgcemijihpakaa.XA
end
