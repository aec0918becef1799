/- octet.Reader: the contracts of NewReader and of the reader's calls. -/
import Derived.Test.YtbgcemijihpakaaG23
import Derived.Laws.Bits64b
import Derived.Laws.Bits64
import Derived.WalkLawsBesides
section
namespace Go.Proofs.Ytbgcemijihpakaa.XA
open Go.RowKit Go.Proofs.YtbgcemijihpakaaW.PrintWords Go.Proofs.YtbgcemijihpakaaW.PrintLast Go.Proofs.YtbgcemijihpakaaW.PrintMore

theorem rd_info5 : (Try.prog.info? 5).map (fun i => (i.zero, i.size, i.bytes)) = some (some (.int .u8 0), 1, 1) := by kernel_rfl

/-- block B is a reader's struct, made from base on; bs are the bytes that are left -/
def RdSt (w : World) (base B : Nat) (bs : List Int) : Prop :=
 ∃ (A : Option Addr) (c : Nat), w.heap[B]? = some (.cells #[.bool true, .slice A bs.length c] 154 (0, 0)) ∧ base ≤ B ∧ bs.length ≤ c ∧ bs.length ≤ 140737488355328 ∧
  (0 < bs.length → ∃ g off, A = some ⟨g, off, none⟩ ∧ base ≤ g ∧ g < w.heap.size ∧ g ≠ B ∧ (∃ cs, w.heap[g]? = some (.cells cs 5 (0, 0))) ∧ ∀ j, j < bs.length → w.cell? ⟨g, off + j, none⟩ = some (.int .u8 (bs.getD j 0)))

/-- the bytes of a row of the call's own, as a reader holds them -/
def RdRow (w1 : World) (base : Nat) (A : Option Addr) (c : Nat) (l : List Int) : Prop :=
 l.length ≤ c ∧ l.length ≤ 140737488355328 ∧ (0 < l.length → ∃ g off, A = some ⟨g, off, none⟩ ∧ base ≤ g ∧ g < w1.heap.size ∧ (∃ cs, w1.heap[g]? = some (.cells cs 5 (0, 0))) ∧ ∀ j, j < l.length → w1.cell? ⟨g, off + j, none⟩ = some (.int .u8 (l.getD j 0)))

theorem rd_made {w1 : World} {base : Nat} {ok : Nat → Prop} {v : Value} {l : List Int} (h : (Kd.scalar (Value.int .u8) (fun _ => rfl)).R 5 w1 base ok v ([] ++ l)) (hl : l.length ≤ 140737488355328) :
  ∃ A c, v = .slice A l.length c ∧ RdRow w1 base A c l := by
 rw [List.nil_append] at h
 obtain ⟨A, c, he, hc', hC⟩ := Kd.R_reads h
 refine ⟨A, c, he, hc', hl, fun hp => ?_⟩
 obtain ⟨g, cap, he', hb, hg, _⟩ := Kd.R_form h hp
 rw [he] at he'
 injection he' with hA _ _
 subst hA
 have hr := (Kd.reads_of_C (d := (0 : Int)) hC).2.2
 obtain ⟨ad, e, hcell⟩ := hr hp
 injection e with e
 subst e
 have hty : ∃ cs, w1.heap[g]? = some (.cells cs 5 (0, 0)) := by
  obtain ⟨_, ho⟩ := Kd.R_own h
  exact own_typed ho g (by rw [he]; rfl)
 refine ⟨g, 0, rfl, hb, hg, hty, fun j hj => ?_⟩
 have := hcell j hj
 rw [show (Addr.add ⟨g, 0, none⟩ j) = ⟨g, 0 + j, none⟩ from by unfold Addr.add; split <;> simp_all] at this
 exact this
theorem rd_boxed {w w1 : World} {A : Option Addr} {c : Nat} {l : List Int} (hb : Below w.heap.size w w1) (h : RdRow w1 w.heap.size A c l) :
  RdSt (w1.alloc (.cells #[.bool true, .slice A l.length c] 154)) w.heap.size w1.heap.size l := by
 refine ⟨A, c, heap_alloc_new w1 _, hb.size, h.1, h.2.1, fun hp => ?_⟩
 obtain ⟨g, off, e, h1, h2, ⟨cs, hcs⟩, h3⟩ := h.2.2 hp
 refine ⟨g, off, e, h1, by simp; omega, by omega, ⟨cs, (heap_alloc_old w1 _ h2).trans hcs⟩, fun j hj => ?_⟩
 rw [World.cell?_alloc_lt _ _ _ h2]
 exact h3 j hj

set_option maxRecDepth 1000000 in
set_option maxHeartbeats 1000000 in
theorem newReader_calls (A : Option Addr) (c : Nat) (l : List Int) (w : World) (hr : (Kd.int .u8).C w A l.length l) (_hc : l.length ≤ c) (hl : l.length ≤ 140737488351232) :
  Calls Try.prog 30 #[.slice A l.length c] w fun e w' => ∃ B, e = .returned (.pointer (some ⟨B, 0, none⟩)) ∧ RdSt w' w.heap.size B l ∧ Below w.heap.size w w' := by
 go_enter Try.func30, Try.ntmps30
 go_wp2_with (at_builtin; refine Kd.R_append_row (w0 := w) (Value.int .u8) (0 : Int) w.heap.size rfl _ _ 34 5 (.int .u8 0) 1 rfl (by kernel_rfl) rd_info5 rfl (by omega) (.slice none 0 0) [] l A l.length c (fun _ => True) rfl rfl (fun _ _ => trivial) (Kd.R_nil _ _ _ _ _) hr (Below.refl _ _) (Nat.le_refl _) ?hl ?_; (case hl => simp; omega); intro v1 w1 HR HB HG HA; obtain ⟨A1, c1, hF, HS⟩ := rd_made HR (by omega); clear HR HG HA; subst hF; have H2 := Lib.hid HS; clear HS)
 go_ret
 exact ⟨w1.heap.size, rfl, rd_boxed HB H2.out, (HB.alloc HB.size _)⟩

theorem RdSt.cells {w : World} {base B : Nat} {bs : List Int} (h : RdSt w base B bs) : ∃ A c, w.cell? ⟨B, 0, none⟩ = some (.bool true) ∧ w.cell? ⟨B, 1, none⟩ = some (.slice A bs.length c) ∧ w.frozen? ⟨B, 0, none⟩ = false ∧ w.frozen? ⟨B, 1, none⟩ = false ∧ bs.length ≤ c ∧ bs.length ≤ 140737488355328 ∧ (Kd.int .u8).C w A bs.length bs := by
 obtain ⟨A, c, h1, h2, h3, h4, h5⟩ := h
 refine ⟨A, c, by simp [World.cell?, h1], by simp [World.cell?, h1], by simp [World.frozen?, h1], by simp [World.frozen?, h1], h3, h4, Kd.C_of_reads (d := (0 : Int)) ⟨rfl, by omega, fun hp => ?_⟩⟩
 obtain ⟨g, off, rfl, _, _, _, _, hc⟩ := h5 hp
 refine ⟨_, rfl, fun j hj => ?_⟩
 rw [show (Addr.add ⟨g, off, none⟩ j) = ⟨g, off + j, none⟩ from by unfold Addr.add; split <;> simp_all]
 exact hc j hj
set_option maxRecDepth 1000000 in
set_option maxHeartbeats 1000000 in
theorem left_calls (B base : Nat) (bs : List Int) (w : World) (h : RdSt w base B bs) :
  Calls Try.prog 53 #[.pointer (some ⟨B, 0, none⟩)] w fun e w' => e = .returned (.int .i64 bs.length) ∧ w = w' := by
 obtain ⟨A, c, h0, h1, _, _, h3, h4, _⟩ := h.cells
 go_enter Try.func53, Try.ntmps53
 go_wp2
 go_ret
 exact ⟨rfl, rfl⟩

theorem RdSt.below {w w1 : World} {base B : Nat} {bs : List Int} (h : RdSt w base B bs) (hb : Below w.heap.size w w1) : RdSt w1 base B bs := by
 obtain ⟨A, c, h1, h2, h3, h4, h5⟩ := h
 have hB : B < w.heap.size := by
  rcases Nat.lt_or_ge B w.heap.size with h | h
  ·exact h
  ·rw [Array.getElem?_eq_none h] at h1; cases h1
 refine ⟨A, c, (hb.block B hB).trans h1, h2, h3, h4, fun hp => ?_⟩
 obtain ⟨g, off, rfl, g1, g2, g3, ⟨cs, hcs⟩, hc⟩ := h5 hp
 exact ⟨g, off, rfl, g1, Nat.lt_of_lt_of_le g2 hb.size, g3, ⟨cs, (hb.block g g2).trans hcs⟩, fun j hj => (hb.cell (p := ⟨g, off + j, none⟩) g2).trans (hc j hj)⟩
/-- what becomes of a reader's slice when n bytes are cut off -/
def cutV (A : Option Addr) (len c n : Nat) : Value := .slice (if c = n then A else A.map (·.add n)) (len - n) (c - n)
theorem cutV_ne {A : Option Addr} {len c n : Nat} (h : ¬ c = n) : cutV A len c n = .slice (A.map (·.add n)) (len - n) (c - n) := by unfold cutV; rw [if_neg h]
theorem cutV_eq {A : Option Addr} {len c n : Nat} (h : c = n) : cutV A len c n = .slice A (len - n) 0 := by unfold cutV; rw [if_pos h, h, Nat.sub_self]
theorem rd_cut {w1 : World} {base B : Nat} {bs : List Int} {A : Option Addr} {c : Nat} (h : RdSt w1 base B bs) (hA : w1.cell? ⟨B, 1, none⟩ = some (.slice A bs.length c)) (n : Nat) (hn : n ≤ bs.length) :
  RdSt (w1.setCell ⟨B, 1, none⟩ (cutV A bs.length c n)) base B (bs.drop n) := by
 obtain ⟨A', c', h1, h2, h3, h4, h5⟩ := h
 simp [World.cell?, h1] at hA
 obtain ⟨rfl, rfl⟩ := hA
 have hl : (bs.drop n).length = bs.length - n := List.length_drop
 have hblk : (w1.setCell ⟨B, 1, none⟩ (cutV A' bs.length c' n)).heap[B]? = some (.cells #[.bool true, .slice (if c' = n then A' else A'.map (·.add n)) (bs.drop n).length (c' - n)] 154 (0, 0)) := by
  simp [World.setCell, Array.getElem?_modify, h1, cutV]
 have hle : (bs.drop n).length ≤ c' - n := by omega
 have hle2 : (bs.drop n).length ≤ 140737488355328 := by omega
 refine ⟨_, _, hblk, h2, hle, hle2, fun hp => ?_⟩
 have hpos : 0 < bs.length := by omega
 have hcn : c' ≠ n := by omega
 obtain ⟨g, off, e, g1, g2, g3, ⟨cs, hcs⟩, hc⟩ := h5 hpos
 clear h5
 subst e
 rw [if_neg hcn]
 refine ⟨g, off + n, by unfold Addr.add; split <;> simp_all, g1, by simpa [World.setCell] using g2, g3, ⟨cs, (Below.heap_setCell w1 ⟨B, 1, none⟩ _ g g3).trans hcs⟩, fun j hj => ?_⟩
 have hj' : n + j < bs.length := by omega
 have := hc (n + j) hj'
 rw [Nat.add_assoc, World.cell?_of_block (Below.heap_setCell w1 ⟨B, 1, none⟩ _ g g3), this]
 simp [List.getD_eq_getElem?_getD]
/-- the block of a reader alone has changed, and what is new -/
def RdOnly (w w' : World) (B : Nat) : Prop := w.grownBy w' (some B)
theorem rd_lt {w : World} {base B : Nat} {bs : List Int} (h : RdSt w base B bs) : B < w.heap.size := by
 obtain ⟨A, c, h1, _⟩ := h
 rcases Nat.lt_or_ge B w.heap.size with h | h
 ·exact h
 ·rw [Array.getElem?_eq_none h] at h1; cases h1
theorem rd_kept {w w1 : World} {B : Nat} {u v : Value} (hb : Below w.heap.size w w1) (h0 : w.cell? ⟨B, 0, none⟩ = some u) (h1 : w.cell? ⟨B, 1, none⟩ = some v) (f0 : w.frozen? ⟨B, 0, none⟩ = false) (f1 : w.frozen? ⟨B, 1, none⟩ = false) (hl : B < w.heap.size) :
  w1.cell? ⟨B, 0, none⟩ = some u ∧ w1.cell? ⟨B, 1, none⟩ = some v ∧ w1.frozen? ⟨B, 0, none⟩ = false ∧ w1.frozen? ⟨B, 1, none⟩ = false :=
 ⟨(hb.cell (p := ⟨B, 0, none⟩) hl).trans h0, (hb.cell (p := ⟨B, 1, none⟩) hl).trans h1, (hb.frozen (p := ⟨B, 0, none⟩) hl).trans f0, (hb.frozen (p := ⟨B, 1, none⟩) hl).trans f1⟩
set_option maxRecDepth 1000000 in
set_option maxHeartbeats 1000000 in
theorem cut_short (B base : Nat) (bs : List Int) (n : Int) (w : World) (h : RdSt w base B bs) (hn : (bs.length : Int) < n) :
  Calls Try.prog 92 #[.pointer (some ⟨B, 0, none⟩), .int .i64 n] w fun e w' => e = .returned (.tuple #[.slice none 0 0, .int .i64 10]) ∧ w = w' := by
 obtain ⟨A, c, h0, h1, _, _, h3, h4, _⟩ := h.cells
 go_enter Try.func92, Try.ntmps92
 go_wp2
 go_ret2
 exact ⟨rfl, rfl⟩
theorem rd_fin {w w1 : World} {base B : Nat} {bs : List Int} {A : Option Addr} {c n : Nat} {v1 : Value} (h : RdSt w base B bs) (hb : Below w.heap.size w w1)
  (hR : (Kd.scalar (Value.int .u8) (fun _ => rfl)).R 5 w1 w.heap.size (fun _ => True) v1 ([] ++ bs.take n)) (hA : w1.cell? ⟨B, 1, none⟩ = some (.slice A bs.length c)) (hn : n ≤ bs.length) (V : Value) (hV : V = cutV A bs.length c n) :
  (Kd.int .u8).R 5 (w1.setCell ⟨B, 1, none⟩ V) w.heap.size (fun _ => True) v1 (bs.take n) ∧ RdSt (w1.setCell ⟨B, 1, none⟩ V) base B (bs.drop n) ∧ RdOnly w (w1.setCell ⟨B, 1, none⟩ V) B := by
 subst hV
 have h1 := h.below hb
 have hl := rd_lt h
 rw [List.nil_append] at hR
 refine ⟨?_, rd_cut h1 hA n hn, ⟨hb.os, hb.tape, hb.output, by simpa [World.setCell] using hb.size, fun k hk hne => ?_⟩⟩
 ·obtain ⟨_, _, hB, _⟩ := h1
  exact Kd.R_set hR hB (by intro q hq; simp [Kd.scalar] at hq; omega) 1 _
 ·rw [Below.heap_setCell w1 ⟨B, 1, none⟩ _ k (fun e => hne (by rw [e]))]
  exact hb.block k hk
set_option maxRecDepth 1000000 in
set_option maxHeartbeats 1000000 in
theorem cut_yes (B base : Nat) (bs : List Int) (n : Nat) (w : World) (h : RdSt w base B bs) (hn : n ≤ bs.length) :
  Calls Try.prog 92 #[.pointer (some ⟨B, 0, none⟩), .int .i64 n] w fun e w' => ∃ v, e = .returned (.tuple #[v, .int .i64 0]) ∧ (Kd.int .u8).R 5 w' w.heap.size (fun _ => True) v (bs.take n) ∧ RdSt w' base B (bs.drop n) ∧ RdOnly w w' B := by
 obtain ⟨A, c, h0, h1, hf0, hf1, h3, h4, hC⟩ := h.cells
 have hT := Kd.C_take hC hn
 have hlt : (bs.take n).length = n := by rw [List.length_take]; omega
 have HB0 := Lib.hid h
 go_enter Try.func92, Try.ntmps92
 go_wp2_with (at_builtin; refine Kd.R_append_row (w0 := w) (Value.int .u8) (0 : Int) w.heap.size rfl _ _ 34 5 (.int .u8 0) 1 rfl (by kernel_rfl) rd_info5 rfl (by omega) (.slice none 0 0) [] (bs.take n) A n c (fun _ => True) rfl rfl (fun _ _ => trivial) (Kd.R_nil _ _ _ _ _) (hlt ▸ hT) (Below.refl _ _) (Nat.le_refl _) ?hl ?_; (case hl => simp; omega); intro v1 w1 HR HB HG HA; have R1 := Lib.hid HR; clear HR HG HA; have H0 := h.below HB; obtain ⟨C0, C1, F0, F1⟩ := rd_kept HB h0 h1 hf0 hf1 (rd_lt h); have HH := Lib.hid H0; clear H0 h hC hT)
 all_goals
  go_ret2
  exact ⟨v1, rfl, rd_fin HB0.out HB R1.out C1 hn _ (by first | exact (cutV_ne ‹_›).symm | exact (cutV_eq ‹_›).symm)⟩

end Go.Proofs.Ytbgcemijihpakaa.XA
end
section
namespace Go.Proofs.Ytbgcemijihpakaa.XA
open Go.RowKit Go.Proofs.YtbgcemijihpakaaW.PrintWords Go.Proofs.YtbgcemijihpakaaW.PrintLast Go.Proofs.YtbgcemijihpakaaW.PrintMore

/-- a number's value, the first byte the lowest -/
def leVal : List Int → Int
 | [] => 0
 | x :: l => x + 256 * leVal l

theorem leVal_lt (l : List Int) (h : ∀ x ∈ l, 0 ≤ x ∧ x ≤ 255) : 0 ≤ leVal l ∧ leVal l < 256 ^ l.length := by
 induction l with
 | nil => simp [leVal]
 | cons x l ih =>
  have h1 := h x (List.mem_cons_self)
  have h2 := ih (fun y hy => h y (List.mem_cons_of_mem _ hy))
  simp only [leVal, List.length_cons, Int.pow_succ]
  omega
theorem leVal_snoc (l : List Int) (x : Int) : leVal (l ++ [x]) = leVal l + 256 ^ l.length * x := by
 induction l with
 | nil => simp [leVal]
 | cons y l ih =>
  simp only [List.cons_append, leVal, ih, List.length_cons, Int.pow_succ, Int.mul_add]
  rw [show (256 : Int) ^ l.length * 256 * x = 256 * (256 ^ l.length * x) from by rw [Int.mul_comm ((256 : Int) ^ l.length) 256, Int.mul_assoc]]
  omega
theorem or_nat (k v x : Nat) (hk : k ≤ 7) (hv : v < 256 ^ k) (hx : x ≤ 255) : bits .or .u64 (v : Int) (IntKind.u64.wrap (IntKind.u64.wrap (x : Int) * 2 ^ (8 * k))) = ((v + 256 ^ k * x : Nat) : Int) := by
 have e2 : (2 : Nat) ^ (8 * k) = 256 ^ k := by rw [Nat.pow_mul]
 have hp : (256 : Nat) ^ k ≤ 256 ^ 7 := Nat.pow_le_pow_right (by omega) hk
 have hm : 256 ^ k * x ≤ 256 ^ 7 * 255 := Nat.mul_le_mul hp hx
 have hlt : 256 ^ k * x < 18446744073709551616 := Nat.lt_of_le_of_lt hm (by decide)
 have e1 : IntKind.u64.wrap (x : Int) = (x : Int) := by rw [IntKind.wrap_u64]; omega
 have e3 : (x : Int) * 2 ^ (8 * k) = ((256 ^ k * x : Nat) : Int) := by
  rw [show (2 : Int) ^ (8 * k) = ((2 ^ (8 * k) : Nat) : Int) from (Int.natCast_pow 2 (8 * k)).symm, e2, Int.natCast_mul, Int.mul_comm]
 rw [e1, e3]
 generalize hP : 256 ^ k * x = P at *
 have e4 : IntKind.u64.wrap (P : Int) = (P : Int) := by rw [IntKind.wrap_u64]; omega
 rw [e4, bits_or_u64_nat v P (by omega) (by omega), ← hP, ← e2]
 rw [← e2] at hv
 rw [Nat.or_comm, ← Nat.two_pow_add_eq_or_of_lt hv, Nat.add_comm]
theorem or_next (k : Nat) (v x : Int) (hk : k ≤ 7) (h0 : 0 ≤ v) (hv : v < 256 ^ k) (hx0 : 0 ≤ x) (hx : x ≤ 255) : bits .or .u64 v (IntKind.u64.wrap (IntKind.u64.wrap x * 2 ^ (8 * k))) = v + 256 ^ k * x := by
 obtain ⟨v, rfl⟩ := Int.eq_ofNat_of_zero_le h0
 obtain ⟨x, rfl⟩ := Int.eq_ofNat_of_zero_le hx0
 have hc : ((256 ^ k : Nat) : Int) = 256 ^ k := Int.natCast_pow 256 k
 rw [or_nat k v x hk (by omega) (by omega), Int.natCast_add, Int.natCast_mul, hc]
theorem leVal_next (bs : List Int) (n k : Nat) (hn : n ≤ 8) (hk : k < n) (hs : n ≤ bs.length) (hb : ∀ x ∈ bs, 0 ≤ x ∧ x ≤ 255) :
  bits .or .u64 (leVal ((bs.take n).take k)) (IntKind.u64.wrap (IntKind.u64.wrap (bs[k]'(by omega)) * 2 ^ (8 * k))) = leVal ((bs.take n).take (k + 1)) := by
 have hl : ((bs.take n).take k).length = k := by rw [List.length_take, List.length_take]; omega
 have hv := leVal_lt ((bs.take n).take k) (fun x hx => hb x (List.mem_of_mem_take (List.mem_of_mem_take hx)))
 have hx := hb (bs[k]'(by omega)) (List.getElem_mem _)
 rw [hl] at hv
 rw [or_next k _ _ (by omega) hv.1 hv.2 hx.1 hx.2]
 have : (bs.take n).take (k + 1) = (bs.take n).take k ++ [bs[k]'(by omega)] := by
  rw [List.take_succ_eq_append_getElem (by rw [List.length_take]; omega)]
  simp
 rw [this, leVal_snoc, hl]
set_option maxRecDepth 1000000 in
set_option maxHeartbeats 1000000 in
theorem number_short (B base : Nat) (bs : List Int) (n : Int) (w : World) (h : RdSt w base B bs) (hn : 1 ≤ n ∧ n ≤ 8) (hs : (bs.length : Int) < n) :
  Calls Try.prog 32 #[.pointer (some ⟨B, 0, none⟩), .int .i64 n] w fun e w' => e = .returned (.tuple #[.int .u64 0, .int .i64 10]) ∧ w = w' := by
 obtain ⟨A, c, h0, h1, _, _, h3, h4, _⟩ := h.cells
 have d1 : decide (n < 1) = false := decide_eq_false (by omega)
 have d2 : decide (8 < n) = false := decide_eq_false (by omega)
 go_enter Try.func32, Try.ntmps32
 go_wp2_with (go_at_call 92; refine (cut_short B base bs n _ h hs).mono ?_; rintro e w' ⟨rfl, rfl⟩)
 go_loop [8, 35] (fun v i => v = .int .u64 0 ∧ i = .int .i64 0) (fun _ _ => 0)
 case atStart => exact ⟨rfl, rfl⟩
 case round =>
  obtain ⟨rfl, rfl⟩ := hrel
  go_wp2
  go_ret2
  exact ⟨rfl, rfl⟩
theorem rd_cells {w1 : World} {base : Nat} {v : Value} {l : List Int} (hR : (Kd.int .u8).R 5 w1 base (fun _ => True) v l) (h : 1 ≤ l.length) :
  ∃ ad c1, v = .slice (some ad) l.length c1 ∧ ∀ j, j < l.length → w1.cell? (ad.add j) = some (.int .u8 (l.getD j 0)) := by
 obtain ⟨A1, c1, hv, hc1, hC⟩ := Kd.R_reads hR
 obtain ⟨ad, rfl, hc⟩ := (Kd.reads_of_C (d := (0 : Int)) hC).2.2 (by omega)
 exact ⟨ad, c1, hv, hc⟩
set_option maxRecDepth 1000000 in
set_option maxHeartbeats 1000000 in
theorem number_yes (B base : Nat) (bs : List Int) (n : Nat) (w : World) (h : RdSt w base B bs) (hn : 1 ≤ n ∧ n ≤ 8) (hs : n ≤ bs.length) (hb : ∀ x ∈ bs, 0 ≤ x ∧ x ≤ 255) :
  Calls Try.prog 32 #[.pointer (some ⟨B, 0, none⟩), .int .i64 n] w fun e w' => e = .returned (.tuple #[.int .u64 (leVal (bs.take n)), .int .i64 0]) ∧ RdSt w' base B (bs.drop n) ∧ RdOnly w w' B := by
 obtain ⟨A, c, h0, h1, _, _, h3, h4, _⟩ := h.cells
 have hlt : (bs.take n).length = n := by rw [List.length_take]; omega
 have d1 : decide ((n : Int) < 1) = false := decide_eq_false (by omega)
 have d2 : decide (8 < (n : Int)) = false := decide_eq_false (by omega)
 have Hb := Lib.hid hb
 clear hb
 go_enter Try.func32, Try.ntmps32
 go_wp2_with (go_at_call 92; refine (cut_yes B base bs n _ h hs).mono ?_; rintro e w1 ⟨v, rfl, hR, hS, hO⟩; obtain ⟨ad, c1, hv, hC⟩ := rd_cells hR (by omega); subst hv; have HS := Lib.hid hS; have HO := Lib.hid hO; have HC := Lib.hid hC; clear hR hS hO hC h0 h1 h d1 d2)
 go_loop [8, 35] (fun v i => ∃ k : Nat, k ≤ (bs.take n).length ∧ v = .int .u64 (leVal ((bs.take n).take k)) ∧ i = .int .i64 k) (fun _ i => (bs.take n).length - (intOf i).toNat)
 case atStart => exact ⟨0, by omega, rfl, rfl⟩
 case round =>
  obtain ⟨k, hk, rfl, rfl⟩ := hrel
  by_cases hlt2 : k < (bs.take n).length
  ·have hcell := HC.out k hlt2
   have HN := Lib.hid (leVal_next bs n k hn.2 (by omega) hs Hb.out)
   go_wp2
   go_round
   case rel => exact ⟨k + 1, by omega, by rw [HN.out], by go_num⟩
   case measure => simp [intOf]; omega
  ·have hfin : Hid ((bs.take n).take k = bs.take n) := Lib.hid (List.take_of_length_le (by omega))
   go_wp2
   go_ret2
   exact ⟨by rw [hfin.out]; rfl, HS.out, HO.out⟩

end Go.Proofs.Ytbgcemijihpakaa.XA
end
section
namespace Go.Proofs.Ytbgcemijihpakaa.XA
set_option linter.unusedVariables false
set_option linter.unusedSimpArgs false
open Go.RowKit Go.WideMaps Go.Maps Go.Proofs.YtbgcemijihpakaaW.PrintWords Go.Proofs.YtbgcemijihpakaaW.PrintLast Go.Proofs.YtbgcemijihpakaaW.PrintMore
/-- how a reading gives up -/
def Ref (c : Int) : List PanicEntry := [{ v := .iface 73 (.agg #[.int .i64 c]), recovered := false }]
abbrev Rd (α : Type) := List Int → Except Int (α × List Int)
/-- what a reading says: what it got and what is left, or that it gives up -/
def Got {α : Type} (p : Except Int (α × List Int)) (V : World → α → Value → Prop) (base B : Nat) (w : World) (e : Ending) (w' : World) : Prop :=
 RdOnly w w' B ∧ match p with
  | .ok (x, r) => ∃ v, e = .returned v ∧ V w' x v ∧ RdSt w' base B r ∧ ∀ y ∈ r, 0 ≤ y ∧ y ≤ 255
  | .error c => e = .panicked (Ref c)
theorem Got.yes {α : Type} {p : Except Int (α × List Int)} {V : World → α → Value → Prop} {base B : Nat} {w w' : World} {e : Ending} {x : α} {r : List Int} (hp : p = .ok (x, r)) (h : Got p V base B w e w') : RdOnly w w' B ∧ ∃ v, e = .returned v ∧ V w' x v ∧ RdSt w' base B r ∧ ∀ y ∈ r, 0 ≤ y ∧ y ≤ 255 := by subst hp; exact h
theorem Got.no {α : Type} {p : Except Int (α × List Int)} {V : World → α → Value → Prop} {base B : Nat} {w w' : World} {e : Ending} {c : Int} (hp : p = .error c) (h : Got p V base B w e w') : RdOnly w w' B ∧ e = .panicked (Ref c) := by subst hp; exact h
theorem Got.mk_yes {α : Type} {p : Except Int (α × List Int)} {V : World → α → Value → Prop} {base B : Nat} {w w' : World} {e : Ending} {x : α} {r : List Int} (hp : p = .ok (x, r)) (ho : RdOnly w w' B) (v : Value) (he : e = .returned v) (hv : V w' x v) (hs : RdSt w' base B r) (hb : ∀ y ∈ r, 0 ≤ y ∧ y ≤ 255) : Got p V base B w e w' := by subst hp; exact ⟨ho, v, he, hv, hs, hb⟩
theorem Got.mk_no {α : Type} {p : Except Int (α × List Int)} {V : World → α → Value → Prop} {base B : Nat} {w w' : World} {e : Ending} {c : Int} (hp : p = .error c) (ho : RdOnly w w' B) (he : e = .panicked (Ref c)) : Got p V base B w e w' := by subst hp; exact ⟨ho, he⟩
theorem only_refl (w : World) (B : Nat) : RdOnly w w B := World.grownBy.refl w _
theorem only_below {w w1 w2 : World} {B : Nat} (h : Below w.heap.size w w1) (h2 : RdOnly w1 w2 B) : RdOnly w w2 B := by
 have hs := h.size
 exact ⟨h2.os.trans h.os, h2.tape.trans h.tape, h2.output.trans h.output, Nat.le_trans hs h2.size, fun k hk hne => (h2.block k (by omega) hne).trans (h.block k hk)⟩
theorem only_trans {w w1 w2 : World} {B : Nat} (h : RdOnly w w1 B) (h2 : RdOnly w1 w2 B) : RdOnly w w2 B := by
 have hs := h.size
 exact ⟨h2.os.trans h.os, h2.tape.trans h.tape, h2.output.trans h.output, Nat.le_trans hs h2.size, fun k hk hne => (h2.block k (by omega) hne).trans (h.block k hk hne)⟩
theorem of_below {w w1 : World} (B : Nat) (h : Below w.heap.size w w1) : RdOnly w w1 B := only_below h (only_refl _ _)
def pGet (n : Nat) : Rd Int := fun bs => if n ≤ bs.length then .ok (leVal (bs.take n), bs.drop n) else .error 101
def isNum (k : IntKind) : World → Int → Value → Prop := fun _ x v => v = .int k x
set_option maxRecDepth 1000000 in
set_option maxHeartbeats 4000000 in
theorem get_calls (B base n : Nat) (bs : List Int) (w : World) (h : RdSt w base B bs) (hb : ∀ x ∈ bs, 0 ≤ x ∧ x ≤ 255) (hn : 1 ≤ n ∧ n ≤ 8) :
  Calls Try.prog 31 #[.agg #[.pointer (some ⟨B, 0, none⟩)], .int .i64 n] w fun e w' => Got (pGet n bs) (isNum .u64) base B w e w' := by
 have HB := Aside0.mk (below_a w (.cells #[.pointer (some ⟨B, 0, none⟩)] 78))
 have HS := Aside0.mk (h.below HB.out)
 have HBY := Aside0.mk hb
 have HN := Aside0.mk hn
 clear h hb
 by_cases hl : n ≤ bs.length
 ·have HP := Aside0.mk (show pGet n bs = .ok (leVal (bs.take n), bs.drop n) from by unfold pGet; rw [if_pos hl])
  have HL := Aside0.mk hl
  clear hl hn
  go_enter Try.func31, Try.ntmps31
  go_wp2_with fail
  refine (number_yes B base bs n _ HS.out HN.out HL.out HBY.out).mono ?_
  rintro e w1 ⟨rfl, S1, O1⟩
  have HS1 := Aside0.mk S1
  have HO1 := Aside0.mk (only_below HB.out O1)
  clear S1 O1
  generalize leVal (bs.take n) = x at *
  go_wp2_with fail
  go_ret
  exact Got.mk_yes HP.out HO1.out _ rfl rfl HS1.out (fun y hy => HBY.out y (List.mem_of_mem_drop hy))
 ·have HP := Aside0.mk (show pGet n bs = .error 101 from by unfold pGet; rw [if_neg hl])
  have HL := Aside0.mk (show (bs.length : Int) < n by omega)
  clear hl hn
  go_enter Try.func31, Try.ntmps31
  go_wp2_with fail
  refine (number_short B base bs n _ HS.out (by have := HN.out; omega) HL.out).mono ?_
  rintro e w1 ⟨rfl, rfl⟩
  go_wp2_with fail
  exact ⟨rfl, Got.mk_no HP.out (of_below B HB.out) rfl⟩
theorem pGet_bd {n : Nat} {bs r : List Int} {x : Int} (h : pGet n bs = .ok (x, r)) (hb : ∀ y ∈ bs, 0 ≤ y ∧ y ≤ 255) : 0 ≤ x ∧ x < 256 ^ n ∧ (∀ y ∈ r, 0 ≤ y ∧ y ≤ 255) ∧ r.length < bs.length + 1 := by
 unfold pGet at h
 split at h
 ·rename_i hl
  injection h with h
  injection h with h1 h2
  subst h1 h2
  have hlt := leVal_lt (bs.take n) (fun x hx => hb x (List.mem_of_mem_take hx))
  rw [List.length_take, Nat.min_eq_left hl] at hlt
  exact ⟨hlt.1, hlt.2, fun y hy => hb y (List.mem_of_mem_drop hy), by simp; omega⟩
 ·cases h
theorem below_of_only {w w' : World} {B : Nat} (h : RdOnly w w' B) {b : Nat} (hb : b ≤ B) (hs : b ≤ w.heap.size) : Below b w w' := ⟨h.os, h.tape, h.output, h.size, fun k hk => h.block k (by omega) (by simp; omega)⟩
set_option maxRecDepth 1000000 in
set_option maxHeartbeats 4000000 in
theorem byte_calls (B base : Nat) (bs : List Int) (w : World) (h : RdSt w base B bs) (hb : ∀ x ∈ bs, 0 ≤ x ∧ x ≤ 255) :
  Calls Try.prog 35 #[.agg #[.pointer (some ⟨B, 0, none⟩)]] w fun e w' => Got (pGet 1 bs) (isNum .i64) base B w e w' := by
 have HB := Aside0.mk (below_a w (.cells #[.pointer (some ⟨B, 0, none⟩)] 78))
 have HS := Aside0.mk (h.below HB.out)
 have HBY := Aside0.mk hb
 clear h hb
 go_enter Try.func35, Try.ntmps35
 go_wp2_with fail
 refine (get_calls B base 1 bs _ HS.out HBY.out (by omega)).mono ?_
 rintro e w1 hg
 rcases hp : pGet 1 bs with c | ⟨x, r⟩
 ·obtain ⟨O1, rfl⟩ := hg.no hp
  have HP := Aside0.mk hp
  have HO1 := Aside0.mk (only_below HB.out O1)
  clear hg hp O1
  exact ⟨rfl, Got.mk_no HP.out HO1.out rfl⟩
 ·obtain ⟨O1, v, rfl, rfl, S1, b1⟩ := hg.yes hp
  have HP := Aside0.mk hp
  have HO1 := Aside0.mk (only_below HB.out O1)
  have HS1 := Aside0.mk S1
  have HB1 := Aside0.mk b1
  have hx := pGet_bd hp HBY.out
  have hx0 := hx.1
  have hx1 : x ≤ 255 := by have := hx.2.1; omega
  clear hg hp O1 S1 b1 hx
  go_wp2_with fail
  go_ret
  exact Got.mk_yes HP.out HO1.out _ rfl rfl HS1.out HB1.out
theorem flag_no (b : Int) (w : World) (h : 1 < b) : Calls Try.prog 42 #[.int .i64 b] w fun e w' => e = .panicked (Ref 103) ∧ w' = w := by
 have hd : decide (1 < b) = true := decide_eq_true h
 go_enter Try.func42, Try.ntmps42
 go_wp2_with fail
 exact ⟨rfl, rfl, rfl⟩
theorem flag_yes (b : Int) (w : World) (h : b ≤ 1) : Calls Try.prog 42 #[.int .i64 b] w fun e w' => e = .returned (.bool (b == 1)) ∧ w' = w := by
 have hd : decide (1 < b) = false := decide_eq_false (by omega)
 have HH := Aside0.mk h
 clear h
 rcases hb : (b == 1) with _ | _
 all_goals
  go_enter Try.func42, Try.ntmps42
  go_wp2_with fail
  go_ret
  exact ⟨rfl, rfl⟩
end Go.Proofs.Ytbgcemijihpakaa.XA
end
