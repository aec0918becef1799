/- octet.Reader: the contracts of NewReader and of the reader's calls. -/
import Derived.Test.YtbhlalnpefijkaaHPlain
import Derived.Test.YtbhlalnpefijkaaWMore
namespace Go.Proofs.Ytbhlalnpefijkaa
open Go.RowKit Go.Proofs.YtbhlalnpefijkaaW.PrintWords Go.Proofs.YtbhlalnpefijkaaW.PrintLast Go.Proofs.YtbhlalnpefijkaaW.PrintMore

theorem rd_info5 : (Try.prog.info? 5).map (fun i => (i.zero, i.size, i.bytes)) = some (some (.int .u8 0), 1, 1) := by kernel_rfl

/-- block B is a reader's struct, made from base on; bs are the bytes that are left -/
def RdSt (w : World) (base B : Nat) (bs : List Int) : Prop :=
  ∃ (A : Option Addr) (c : Nat), w.heap[B]? = some (.cells #[.bool true, .slice A bs.length c] 71 (0, 0)) ∧ base ≤ B ∧ bs.length ≤ c ∧ bs.length ≤ 140737488355328 ∧
    (0 < bs.length → ∃ g off, A = some ⟨g, off, none⟩ ∧ base ≤ g ∧ g < w.heap.size ∧ g ≠ B ∧ (∃ cs, w.heap[g]? = some (.cells cs 5 (0, 0))) ∧ ∀ j, j < bs.length → w.cell? ⟨g, off + j, none⟩ = some (.int .u8 (bs.getD j 0)))

/-- the bytes of a row of the call's own, as a reader holds them -/
def RdRow (w1 : World) (base : Nat) (A : Option Addr) (c : Nat) (l : List Int) : Prop :=
  l.length ≤ c ∧ l.length ≤ 140737488355328 ∧ (0 < l.length → ∃ g off, A = some ⟨g, off, none⟩ ∧ base ≤ g ∧ g < w1.heap.size ∧ (∃ cs, w1.heap[g]? = some (.cells cs 5 (0, 0))) ∧ ∀ j, j < l.length → w1.cell? ⟨g, off + j, none⟩ = some (.int .u8 (l.getD j 0)))

theorem rd_made {w1 : World} {base : Nat} {ok : Nat → Prop} {v : Value} {l : List Int} (h : (Kd.scalar (Value.int .u8) (fun _ => rfl)).R 5 w1 base ok v ([] ++ l)) (hl : l.length ≤ 140737488355328) :
    ∃ A c, v = .slice A l.length c ∧ RdRow w1 base A c l := by
  rw [List.nil_append] at h
  obtain ⟨A, c, he, hc', hC⟩ := Kd.R_reads h
  refine ⟨A, c, he, hc', hl, fun hp => ?_⟩
  obtain ⟨g, cap, he', hb, hg, _⟩ := Kd.R_form h hp
  rw [he] at he'
  injection he' with hA _ _
  subst hA
  have hr := (Kd.reads_of_C (d := (0 : Int)) hC).2.2
  obtain ⟨ad, e, hcell⟩ := hr hp
  injection e with e
  subst e
  have hty : ∃ cs, w1.heap[g]? = some (.cells cs 5 (0, 0)) := by
    obtain ⟨_, ho⟩ := Kd.R_own h
    exact own_typed ho g (by rw [he]; rfl)
  refine ⟨g, 0, rfl, hb, hg, hty, fun j hj => ?_⟩
  have := hcell j hj
  rw [show (Addr.add ⟨g, 0, none⟩ j) = ⟨g, 0 + j, none⟩ from by unfold Addr.add; split <;> simp_all] at this
  exact this
theorem rd_boxed {w w1 : World} {A : Option Addr} {c : Nat} {l : List Int} (hb : Below w.heap.size w w1) (h : RdRow w1 w.heap.size A c l) :
    RdSt (w1.alloc (.cells #[.bool true, .slice A l.length c] 71)) w.heap.size w1.heap.size l := by
  refine ⟨A, c, heap_alloc_new w1 _, hb.size, h.1, h.2.1, fun hp => ?_⟩
  obtain ⟨g, off, e, h1, h2, ⟨cs, hcs⟩, h3⟩ := h.2.2 hp
  refine ⟨g, off, e, h1, by simp; omega, by omega, ⟨cs, (heap_alloc_old w1 _ h2).trans hcs⟩, fun j hj => ?_⟩
  rw [World.cell?_alloc_lt _ _ _ h2]
  exact h3 j hj

set_option maxRecDepth 1000000 in
set_option maxHeartbeats 1000000 in
theorem newReader_calls (A : Option Addr) (c : Nat) (l : List Int) (w : World) (hr : (Kd.int .u8).C w A l.length l) (_hc : l.length ≤ c) (hl : l.length ≤ 140737488351232) :
    Calls Try.prog 24 #[.slice A l.length c] w fun e w' => ∃ B, e = .returned (.pointer (some ⟨B, 0, none⟩)) ∧ RdSt w' w.heap.size B l ∧ Below w.heap.size w w' := by
  go_enter Try.func24, Try.ntmps24
  go_wp2_with (at_builtin; refine Kd.R_append_row (w0 := w) (Value.int .u8) (0 : Int) w.heap.size rfl _ _ 23 5 (.int .u8 0) 1 rfl (by kernel_rfl) rd_info5 rfl (by omega) (.slice none 0 0) [] l A l.length c (fun _ => True) rfl rfl (fun _ _ => trivial) (Kd.R_nil _ _ _ _ _) hr (Below.refl _ _) (Nat.le_refl _) ?hl ?_; (case hl => simp; omega); intro v1 w1 HR HB HG HA; obtain ⟨A1, c1, hF, HS⟩ := rd_made HR (by omega); clear HR HG HA; subst hF; have H2 := Lib.hid HS; clear HS)
  go_ret
  exact ⟨w1.heap.size, rfl, rd_boxed HB H2.out, (HB.alloc HB.size _)⟩

theorem RdSt.cells {w : World} {base B : Nat} {bs : List Int} (h : RdSt w base B bs) : ∃ A c, w.cell? ⟨B, 0, none⟩ = some (.bool true) ∧ w.cell? ⟨B, 1, none⟩ = some (.slice A bs.length c) ∧ w.frozen? ⟨B, 0, none⟩ = false ∧ w.frozen? ⟨B, 1, none⟩ = false ∧ bs.length ≤ c ∧ bs.length ≤ 140737488355328 ∧ (Kd.int .u8).C w A bs.length bs := by
  obtain ⟨A, c, h1, h2, h3, h4, h5⟩ := h
  refine ⟨A, c, by simp [World.cell?, h1], by simp [World.cell?, h1], by simp [World.frozen?, h1], by simp [World.frozen?, h1], h3, h4, Kd.C_of_reads (d := (0 : Int)) ⟨rfl, by omega, fun hp => ?_⟩⟩
  obtain ⟨g, off, rfl, _, _, _, _, hc⟩ := h5 hp
  refine ⟨_, rfl, fun j hj => ?_⟩
  rw [show (Addr.add ⟨g, off, none⟩ j) = ⟨g, off + j, none⟩ from by unfold Addr.add; split <;> simp_all]
  exact hc j hj
theorem ptr_nil (a : Addr) (w : World) : (binOp .eql 46 (.pointer (some a)) (.pointer none)).run Try.prog w = .ok (.bool false) w := by kernel_rfl
set_option maxRecDepth 1000000 in
set_option maxHeartbeats 1000000 in
theorem left_calls (B base : Nat) (bs : List Int) (w : World) (h : RdSt w base B bs) :
    Calls Try.prog 28 #[.pointer (some ⟨B, 0, none⟩)] w fun e w' => e = .returned (.int .i64 bs.length) ∧ w = w' := by
  obtain ⟨A, c, h0, h1, _, _, h3, h4, _⟩ := h.cells
  go_enter Try.func28, Try.ntmps28
  go_wp2
  go_ret
  exact ⟨rfl, rfl⟩

theorem RdSt.below {w w1 : World} {base B : Nat} {bs : List Int} (h : RdSt w base B bs) (hb : Below w.heap.size w w1) : RdSt w1 base B bs := by
  obtain ⟨A, c, h1, h2, h3, h4, h5⟩ := h
  have hB : B < w.heap.size := by
    rcases Nat.lt_or_ge B w.heap.size with h | h
    · exact h
    · rw [Array.getElem?_eq_none h] at h1; cases h1
  refine ⟨A, c, (hb.block B hB).trans h1, h2, h3, h4, fun hp => ?_⟩
  obtain ⟨g, off, rfl, g1, g2, g3, ⟨cs, hcs⟩, hc⟩ := h5 hp
  exact ⟨g, off, rfl, g1, Nat.lt_of_lt_of_le g2 hb.size, g3, ⟨cs, (hb.block g g2).trans hcs⟩, fun j hj => (hb.cell (p := ⟨g, off + j, none⟩) g2).trans (hc j hj)⟩
/-- what becomes of a reader's slice when n bytes are cut off -/
def cutV (A : Option Addr) (len c n : Nat) : Value := .slice (if c = n then A else A.map (·.add n)) (len - n) (c - n)
theorem cutV_ne {A : Option Addr} {len c n : Nat} (h : ¬ c = n) : cutV A len c n = .slice (A.map (·.add n)) (len - n) (c - n) := by unfold cutV; rw [if_neg h]
theorem cutV_eq {A : Option Addr} {len c n : Nat} (h : c = n) : cutV A len c n = .slice A (len - n) 0 := by unfold cutV; rw [if_pos h, h, Nat.sub_self]
theorem rd_cut {w1 : World} {base B : Nat} {bs : List Int} {A : Option Addr} {c : Nat} (h : RdSt w1 base B bs) (hA : w1.cell? ⟨B, 1, none⟩ = some (.slice A bs.length c)) (n : Nat) (hn : n ≤ bs.length) :
    RdSt (w1.setCell ⟨B, 1, none⟩ (cutV A bs.length c n)) base B (bs.drop n) := by
  obtain ⟨A', c', h1, h2, h3, h4, h5⟩ := h
  simp [World.cell?, h1] at hA
  obtain ⟨rfl, rfl⟩ := hA
  have hl : (bs.drop n).length = bs.length - n := List.length_drop
  have hblk : (w1.setCell ⟨B, 1, none⟩ (cutV A' bs.length c' n)).heap[B]? = some (.cells #[.bool true, .slice (if c' = n then A' else A'.map (·.add n)) (bs.drop n).length (c' - n)] 71 (0, 0)) := by
    simp [World.setCell, Array.getElem?_modify, h1, cutV]
  have hle : (bs.drop n).length ≤ c' - n := by omega
  have hle2 : (bs.drop n).length ≤ 140737488355328 := by omega
  refine ⟨_, _, hblk, h2, hle, hle2, fun hp => ?_⟩
  have hpos : 0 < bs.length := by omega
  have hcn : c' ≠ n := by omega
  obtain ⟨g, off, e, g1, g2, g3, ⟨cs, hcs⟩, hc⟩ := h5 hpos
  clear h5
  subst e
  rw [if_neg hcn]
  refine ⟨g, off + n, by unfold Addr.add; split <;> simp_all, g1, by simpa [World.setCell] using g2, g3, ⟨cs, (Below.heap_setCell w1 ⟨B, 1, none⟩ _ g g3).trans hcs⟩, fun j hj => ?_⟩
  have hj' : n + j < bs.length := by omega
  have := hc (n + j) hj'
  rw [Nat.add_assoc, World.cell?_of_block (Below.heap_setCell w1 ⟨B, 1, none⟩ _ g g3), this]
  simp [List.getD_eq_getElem?_getD]
/-- the block of a reader alone has changed, and what is new -/
def RdOnly (w w' : World) (B : Nat) : Prop := w.grownBy w' (some B)
theorem rd_lt {w : World} {base B : Nat} {bs : List Int} (h : RdSt w base B bs) : B < w.heap.size := by
  obtain ⟨A, c, h1, _⟩ := h
  rcases Nat.lt_or_ge B w.heap.size with h | h
  · exact h
  · rw [Array.getElem?_eq_none h] at h1; cases h1
theorem rd_kept {w w1 : World} {B : Nat} {u v : Value} (hb : Below w.heap.size w w1) (h0 : w.cell? ⟨B, 0, none⟩ = some u) (h1 : w.cell? ⟨B, 1, none⟩ = some v) (f0 : w.frozen? ⟨B, 0, none⟩ = false) (f1 : w.frozen? ⟨B, 1, none⟩ = false) (hl : B < w.heap.size) :
    w1.cell? ⟨B, 0, none⟩ = some u ∧ w1.cell? ⟨B, 1, none⟩ = some v ∧ w1.frozen? ⟨B, 0, none⟩ = false ∧ w1.frozen? ⟨B, 1, none⟩ = false :=
  ⟨(hb.cell (p := ⟨B, 0, none⟩) hl).trans h0, (hb.cell (p := ⟨B, 1, none⟩) hl).trans h1, (hb.frozen (p := ⟨B, 0, none⟩) hl).trans f0, (hb.frozen (p := ⟨B, 1, none⟩) hl).trans f1⟩
set_option maxRecDepth 1000000 in
set_option maxHeartbeats 1000000 in
theorem cut_neg (B base : Nat) (bs : List Int) (n : Int) (w : World) (h : RdSt w base B bs) (hn : n < 0) :
    Calls Try.prog 47 #[.pointer (some ⟨B, 0, none⟩), .int .i64 n] w fun e w' => e = .returned (.tuple #[.slice none 0 0, .int .i64 2]) ∧ w = w' := by
  obtain ⟨A, c, h0, h1, _, _, h3, h4, _⟩ := h.cells
  go_enter Try.func47, Try.ntmps47
  go_wp2
  go_ret2
  exact ⟨rfl, rfl⟩
set_option maxRecDepth 1000000 in
set_option maxHeartbeats 1000000 in
theorem cut_short (B base : Nat) (bs : List Int) (n : Int) (w : World) (h : RdSt w base B bs) (hn : (bs.length : Int) < n) :
    Calls Try.prog 47 #[.pointer (some ⟨B, 0, none⟩), .int .i64 n] w fun e w' => e = .returned (.tuple #[.slice none 0 0, .int .i64 10]) ∧ w = w' := by
  obtain ⟨A, c, h0, h1, _, _, h3, h4, _⟩ := h.cells
  go_enter Try.func47, Try.ntmps47
  go_wp2
  go_ret2
  exact ⟨rfl, rfl⟩
theorem rd_fin {w w1 : World} {base B : Nat} {bs : List Int} {A : Option Addr} {c n : Nat} {v1 : Value} (h : RdSt w base B bs) (hb : Below w.heap.size w w1)
    (hR : (Kd.scalar (Value.int .u8) (fun _ => rfl)).R 5 w1 w.heap.size (fun _ => True) v1 ([] ++ bs.take n)) (hA : w1.cell? ⟨B, 1, none⟩ = some (.slice A bs.length c)) (hn : n ≤ bs.length) (V : Value) (hV : V = cutV A bs.length c n) :
    (Kd.int .u8).R 5 (w1.setCell ⟨B, 1, none⟩ V) w.heap.size (fun _ => True) v1 (bs.take n) ∧ RdSt (w1.setCell ⟨B, 1, none⟩ V) base B (bs.drop n) ∧ RdOnly w (w1.setCell ⟨B, 1, none⟩ V) B := by
  subst hV
  have h1 := h.below hb
  have hl := rd_lt h
  rw [List.nil_append] at hR
  refine ⟨?_, rd_cut h1 hA n hn, ⟨hb.os, hb.tape, hb.output, by simpa [World.setCell] using hb.size, fun k hk hne => ?_⟩⟩
  · obtain ⟨_, _, hB, _⟩ := h1
    exact Kd.R_set hR hB (by intro q hq; simp [Kd.scalar] at hq; omega) 1 _
  · rw [Below.heap_setCell w1 ⟨B, 1, none⟩ _ k (fun e => hne (by rw [e]))]
    exact hb.block k hk
set_option maxRecDepth 1000000 in
set_option maxHeartbeats 1000000 in
theorem cut_yes (B base : Nat) (bs : List Int) (n : Nat) (w : World) (h : RdSt w base B bs) (hn : n ≤ bs.length) :
    Calls Try.prog 47 #[.pointer (some ⟨B, 0, none⟩), .int .i64 n] w fun e w' => ∃ v, e = .returned (.tuple #[v, .int .i64 0]) ∧ (Kd.int .u8).R 5 w' w.heap.size (fun _ => True) v (bs.take n) ∧ RdSt w' base B (bs.drop n) ∧ RdOnly w w' B := by
  obtain ⟨A, c, h0, h1, hf0, hf1, h3, h4, hC⟩ := h.cells
  have hT := Kd.C_take hC hn
  have hlt : (bs.take n).length = n := by rw [List.length_take]; omega
  have HB0 := Lib.hid h
  go_enter Try.func47, Try.ntmps47
  go_wp2_with (at_builtin; refine Kd.R_append_row (w0 := w) (Value.int .u8) (0 : Int) w.heap.size rfl _ _ 23 5 (.int .u8 0) 1 rfl (by kernel_rfl) rd_info5 rfl (by omega) (.slice none 0 0) [] (bs.take n) A n c (fun _ => True) rfl rfl (fun _ _ => trivial) (Kd.R_nil _ _ _ _ _) (hlt ▸ hT) (Below.refl _ _) (Nat.le_refl _) ?hl ?_; (case hl => simp; omega); intro v1 w1 HR HB HG HA; have R1 := Lib.hid HR; clear HR HG HA; have H0 := h.below HB; obtain ⟨C0, C1, F0, F1⟩ := rd_kept HB h0 h1 hf0 hf1 (rd_lt h); have HH := Lib.hid H0; clear H0 h hC hT)
  all_goals
    go_ret2
    exact ⟨v1, rfl, rd_fin HB0.out HB R1.out C1 hn _ (by first | exact (cutV_ne ‹_›).symm | exact (cutV_eq ‹_›).symm)⟩

end Go.Proofs.Ytbhlalnpefijkaa
