/- image's reader: a list of bytes. -/
import Derived.Test.YtbgcemijihpakaaG24
section
namespace Go.Proofs.Ytbgcemijihpakaa.XA
set_option linter.unusedVariables false
set_option linter.unusedSimpArgs false
open Go.RowKit Go.WideMaps Go.Maps Go.Proofs.YtbgcemijihpakaaW.PrintWords Go.Proofs.YtbgcemijihpakaaW.PrintLast Go.Proofs.YtbgcemijihpakaaW.PrintMore
/-- the same reading so many times -/
def pReps {α : Type} (p : Rd α) : Nat → Rd (List α)
  | 0 => fun bs => .ok ([], bs)
  | n + 1 => fun bs => match p bs with
    | .error c => .error c
    | .ok (x, r) => match pReps p n r with
      | .error c => .error c
      | .ok (l, s) => .ok (x :: l, s)
def pre {α : Type} (xs : List α) : Except Int (List α × List Int) → Except Int (List α × List Int)
  | .error c => .error c
  | .ok (l, s) => .ok (xs ++ l, s)
theorem pre_nil {α : Type} (q : Except Int (List α × List Int)) : pre [] q = q := by rcases q with c | ⟨l, s⟩ <;> rfl
theorem pre_step {α : Type} {p : Rd α} (n : Nat) (xs : List α) {bs r : List Int} {x : α} (h : p bs = .ok (x, r)) : pre xs (pReps p (n + 1) bs) = pre (xs ++ [x]) (pReps p n r) := by
  simp only [pReps, h]
  rcases pReps p n r with c | ⟨l, s⟩ <;> simp [pre]
theorem pre_fail {α : Type} {p : Rd α} (n : Nat) (xs : List α) {bs : List Int} {c : Int} (h : p bs = .error c) : pre xs (pReps p (n + 1) bs) = .error c := by simp [pReps, h, pre]
theorem pre_done {α : Type} (p : Rd α) (xs : List α) (bs : List Int) : pre xs (pReps p 0 bs) = .ok (xs, bs) := by simp [pReps, pre]
def pList : Rd (List Int) := fun bs => match pGet 1 bs with
  | .error c => .error c
  | .ok (n, r) => pReps (pGet 1) n.toNat r
def isList (b : Nat) : World → List Int → Value → Prop := fun w l v => (Kd.int .i64).R 3 w b (fun _ => True) v l
/-- another row of the reading has grown: the reader's own blocks stay -/
theorem RdSt.grown {w w1 : World} {base B : Nat} {bs : List Int} {row : Option Nat} (h : RdSt w base B bs) (hg : w.grownBy w1 row) (hr : ∀ k, row = some k → ∃ q cs, w.heap[k]? = some (.cells cs q (0, 0)) ∧ q ≠ 154 ∧ q ≠ 5) : RdSt w1 base B bs := by
  have hB := rd_lt h
  obtain ⟨A, c, h1, h2, h3, h4, h5⟩ := h
  have ne : ∀ k cs q, w.heap[k]? = some (.cells cs q (0, 0)) → (q = 154 ∨ q = 5) → some k ≠ row := by
    rintro k cs q hk hq he
    obtain ⟨q', cs', hk', n1, n2⟩ := hr k he.symm
    rw [hk] at hk'
    injection hk' with hk'
    injection hk' with _ hk' _
    subst hk'
    rcases hq with h | h
    · exact n1 h
    · exact n2 h
  refine ⟨A, c, (hg.block B hB (ne _ _ _ h1 (.inl rfl))).trans h1, h2, h3, h4, fun hp => ?_⟩
  obtain ⟨g, off, rfl, g1, g2, g3, ⟨cs, hcs⟩, hc⟩ := h5 hp
  have hgb := hg.block g g2 (ne _ _ _ hcs (.inr rfl))
  refine ⟨g, off, rfl, g1, Nat.lt_of_lt_of_le g2 hg.size, g3, ⟨cs, hgb.trans hcs⟩, fun j hj => ?_⟩
  rw [← hc j hj]
  simp only [World.cell?, hgb]
/-- a row of the reading's own stays when the reader goes on -/
theorem R_only {α : Type} {d : Kd α} {e b B : Nat} {ok : Nat → Prop} {w w1 : World} {v : Value} {xs : List α} (h : d.R e w b ok v xs) (ho : RdOnly w w1 B) (hB : B < b) : d.R e w1 b ok v xs :=
  Kd.R_mono (Kd.R_grown (Kd.R_bound h) ho (fun k hk he => by injection he with he; have := hk.2.1; omega)) (fun _ hk => hk.1)
theorem own3 {e b : Nat} {ok : Nat → Prop} {w : World} {v : Value} {α : Type} {d : Kd α} {xs : List α} (h : d.R e w b ok v xs) (h1 : e ≠ 154) (h2 : e ≠ 5) : ∀ k, v.ownBlock = some k → ∃ q cs, w.heap[k]? = some (.cells cs q (0, 0)) ∧ q ≠ 154 ∧ q ≠ 5 := fun k hk => by
  obtain ⟨_, inner, ho, _⟩ := h
  obtain ⟨cs, hc⟩ := own_typed ho k hk
  exact ⟨e, cs, hc, h1, h2⟩
/-- what has grown is a row of the reading's own -/
theorem only_grown {w w1 w2 : World} {B : Nat} {row : Option Nat} (h : RdOnly w w1 B) (hg : w1.grownBy w2 row) (hr : ∀ k, row = some k → w.heap.size ≤ k) : RdOnly w w2 B := by
  have hs := h.size
  exact ⟨hg.os.trans h.os, hg.tape.trans h.tape, hg.output.trans h.output, Nat.le_trans hs hg.size, fun k hk hne => (hg.block k (by omega) (fun he => by have := hr k he.symm; omega)).trans (h.block k hk hne)⟩
section
variable {ops : Array Oper} {o : Oper} {rest : List Oper} {a : Act}
theorem agg78 (w : World) : (isAgg 78).run Try.prog w = .ok true w := by kernel_rfl
theorem size78 (w : World) : (sizeOf 78).run Try.prog w = .ok 1 w := by kernel_rfl
/-- the reader's box -/
def RBox (w : World) (g B : Nat) : Prop := w.heap[g]? = some (.cells #[.pointer (some ⟨B, 0, none⟩)] 78 (0, 0))
theorem RBox.only {w w1 : World} {g B X : Nat} (h : RBox w g B) (ho : RdOnly w w1 X) (hn : g ≠ X) : RBox w1 g B := (ho.block g (blk_lt h) (by simpa using hn)).trans h
theorem RBox.grown {w w1 : World} {g B : Nat} {row : Option Nat} (h : RBox w g B) (hg : w.grownBy w1 row) (hr : some g ≠ row) : RBox w1 g B := (hg.block g (blk_lt h) hr).trans h
theorem load78 {Q : Exit → Act → World → Prop} {w : World} {g B : Nat} (hX : RBox w g B) (hgd : o.guard = none) (y : Operand) (ho : o.op = .load 78 y) (hy : a.eval y = .pointer (some ⟨g, 0, none⟩)) (h : wpList Try.prog ops Q rest (a.put o.dst (.agg #[.pointer (some ⟨B, 0, none⟩)])) w) : wpList Try.prog ops Q (o :: rest) a w := by
  refine Kd.event_run hgd (v := .agg #[.pointer (some ⟨B, 0, none⟩)]) ?_ h
  have hl := load_agg (w := w) (t := 78) (n := 1) (a := ⟨g, 0, none⟩) (cs := [.pointer (some ⟨B, 0, none⟩)]) agg78 size78 rfl (cells_box2 hX)
  simp only [execOp, ho, hy]
  simp [hl, Result.andThen]
end
/-- where the loop over a list stands -/
structure LSt (w wr : World) (base B : Nat) (bs : List Int) (v : Value) (xs r : List Int) (m : Nat) : Prop where
  row : (Kd.int .i64).R 3 wr w.heap.size (fun _ => True) v xs
  st : RdSt wr base B r
  only : RdOnly w wr B
  bd : ∀ y ∈ r, 0 ≤ y ∧ y ≤ 255
  eq : pList bs = pre xs (pReps (pGet 1) m r)
  len : xs.length + m ≤ 255
  box : RBox wr w.heap.size B
set_option maxRecDepth 1000000 in
set_option maxHeartbeats 4000000 in
theorem rlist_calls (B base : Nat) (bs : List Int) (w : World) (h : RdSt w base B bs) (hb : ∀ x ∈ bs, 0 ≤ x ∧ x ≤ 255) :
    Calls Try.prog 50 #[.agg #[.pointer (some ⟨B, 0, none⟩)]] w fun e w' => Got (pList bs) (isList w.heap.size) base B w e w' := by
  have HB := Aside0.mk (below_a w (.cells #[.pointer (some ⟨B, 0, none⟩)] 78))
  have HS := Aside0.mk (h.below HB.out)
  have HLT := Aside0.mk (rd_lt h)
  have HBY := Aside0.mk hb
  have HBX := Aside0.mk (show RBox (w.alloc (.cells #[.pointer (some ⟨B, 0, none⟩)] 78)) w.heap.size B from heap_alloc_new w _)
  clear h hb
  rcases hp : pGet 1 bs with c | ⟨x, r0⟩
  · have HP := Aside0.mk hp
    clear hp
    go_enter Try.func50, Try.ntmps50
    go_wp2_with fail
    refine (byte_calls B base bs _ HS.out HBY.out).mono ?_
    rintro e w1 hg
    obtain ⟨O1, rfl⟩ := hg.no HP.out
    exact ⟨rfl, Got.mk_no (by unfold pList; rw [HP.out]) (only_below HB.out O1) rfl⟩
  · have HP := Aside0.mk hp
    have hx := pGet_bd hp HBY.out
    have hx0 := hx.1
    have hx1 : x ≤ 255 := by have := hx.2.1; omega
    have HX := Aside0.mk (show ((x.toNat : Nat) : Int) = x by omega)
    have HX0 := Aside0.mk hx0
    have HX1 := Aside0.mk hx1
    clear hp hx hx0 hx1
    go_enter Try.func50, Try.ntmps50
    go_wp2_with fail
    refine (byte_calls B base bs _ HS.out HBY.out).mono ?_
    rintro e w1 hg
    obtain ⟨O1, v, rfl, rfl, S1, b1⟩ := hg.yes HP.out
    have HL1 := Aside0.mk (show LSt w w1 base B bs (.slice none 0 0) [] r0 x.toNat from
      ⟨Kd.R_nil _ _ _ _ _, S1, only_below HB.out O1, b1, by unfold pList; rw [HP.out, pre_nil], by have := HX0.out; have := HX1.out; simp; omega, HBX.out.only O1 (by have := HLT.out; omega)⟩)
    clear hg O1 S1 b1
    go_wp2_with fail
    go_loopg [3, 4] x.toNat (fun g s3 s4 wr => ∃ (m : Nat) (A : Option Addr) (n c : Nat) (xs r : List Int), m = g ∧ s3 = .slice A n c ∧ s4 = .int .i64 (m : Int) ∧ Aside0 (LSt w wr base B bs (.slice A n c) xs r m))
    case atStart => exact ⟨_, none, 0, 0, [], r0, rfl, rfl, by rw [HX.out], HL1⟩
    case round =>
      obtain ⟨m0, A, n, c, xs, r, rfl, rfl, rfl, HL⟩ := hrel
      rcases m0 with _ | m
      · have HP2 := Aside0.mk (show pList bs = .ok (xs, r) by rw [HL.out.eq, pre_done])
        go_wp2_with fail
        go_ret
        exact Got.mk_yes HP2.out HL.out.only _ rfl HL.out.row HL.out.st HL.out.bd
      · obtain ⟨y, hy⟩ : ∃ y : Int, y = ((m + 1 : Nat) : Int) := ⟨_, rfl⟩
        have HY := Aside0.mk hy
        rw [← hy]
        have hy0 : 0 < y := by omega
        have hyl : y ≤ 255 := by have := HL.out.len; omega
        have hd : decide (0 < y) = true := decide_eq_true hy0
        clear hy
        rcases hp2 : pGet 1 r with c2 | ⟨x2, r2⟩
        · have HP2 := Aside0.mk (show pList bs = .error c2 by rw [HL.out.eq, pre_fail m xs hp2])
          have HQ2 := Aside0.mk hp2
          clear hp2
          go_wp2_with ((with_reducible refine gate_dst (N := 12) rfl ?_); refine load78 HL.out.box rfl (.tmp 1) rfl rfl ?_)
          refine (byte_calls B base r wr HL.out.st HL.out.bd).mono ?_
          rintro e w2 hg
          obtain ⟨O2, rfl⟩ := hg.no HQ2.out
          exact ⟨rfl, Got.mk_no HP2.out (only_trans HL.out.only O2) rfl⟩
        · have HQ2 := Aside0.mk hp2
          clear hp2
          go_wp2_with ((with_reducible refine gate_dst (N := 12) rfl ?_); refine load78 HL.out.box rfl (.tmp 1) rfl rfl ?_)
          refine (byte_calls B base r wr HL.out.st HL.out.bd).mono ?_
          rintro e w2 hg
          obtain ⟨O2, v2, rfl, rfl, S2, b2⟩ := hg.yes HQ2.out
          have HL2 := Aside0.mk (show LSt w w2 base B bs (.slice A n c) xs r2 (m + 1) ∨ True from .inr trivial)
          have HR2 := Aside0.mk (R_only HL.out.row O2 HLT.out)
          have HS2 := Aside0.mk S2
          have HB2 := Aside0.mk b2
          have HO2 := Aside0.mk (only_trans HL.out.only O2)
          have HX2 := Aside0.mk (HL.out.box.only O2 (by have := HLT.out; omega))
          have HN2 := Aside0.mk (show xs.length + (m + 1) ≤ 255 from HL.out.len)
          have HE2 := Aside0.mk (HL.out.eq.trans (pre_step m xs HQ2.out))
          clear hg O2 S2 b2 HL HL2
          go_wp2_with ((with_reducible refine gate_builtin (b := .append) (xs := #[.tmp 11, .tmp 14]) rfl ?_); at_builtin; refine Kd.R_append (Kd.int .i64) (w0 := w2) w.heap.size rfl (.tmp 11) (.tmp 14) 48 3 (.int .i64 0) 8 rfl Try.underlying48 info3 rfl (by decide) (by omega) _ xs x2 [.int .i64 x2] (fun _ => True) (fun _ => False) rfl rfl rfl (fun _ h => h.elim) (fun _ _ => trivial) HR2.out (Below.refl _ _) HO2.out.size ?aL ?_; (case aL => have := HN2.out; omega); intro v3 w3 HR3 HB3 HG3 HA3; obtain ⟨A3, n3, c3, hv3⟩ : ∃ A n c, v3 = .slice A n c := (by obtain ⟨A, c, h⟩ := Kd.R_slice HR3; exact ⟨A, _, c, h⟩); subst hv3; have HRR := Aside0.mk HR3; have HGG := Aside0.mk HG3; clear HR3 HB3 HG3 HA3)
          have HFR := Aside0.mk (show ∀ k, (Value.slice A n c).ownBlock = some k → w.heap.size ≤ k from fun k hk => by
            obtain ⟨_, inner, ho, _⟩ := HR2.out
            exact own_base ho k hk)
          have HL3 := Aside0.mk (show LSt w w3 base B bs (.slice A3 n3 c3) (xs ++ [x2]) r2 m from
            ⟨HRR.out, HS2.out.grown HGG.out (own3 HR2.out (by decide) (by decide)), only_grown HO2.out HGG.out HFR.out, HB2.out, HE2.out, by have := HN2.out; simp; omega,
             HX2.out.grown HGG.out (fun he => by
               obtain ⟨q, cs, hc, _⟩ := own3 HR2.out (by decide) (by decide) _ he.symm
               obtain ⟨_, inner, ho, _⟩ := HR2.out
               obtain ⟨cs2, hc2⟩ := own_typed ho _ he.symm
               have hbx := HX2.out
               unfold RBox at hbx
               rw [hbx] at hc2
               injection hc2 with hc2
               injection hc2 with _ hc2 _
               cases hc2)⟩)
          go_roundg m
          case measure => omega
          case rel => exact ⟨m, A3, n3, c3, _, r2, rfl, rfl, by rw [HY.out]; congr 1; omega, HL3⟩
end Go.Proofs.Ytbgcemijihpakaa.XA
end
section
namespace Go.Proofs.Ytbgcemijihpakaa.XA
set_option linter.unusedVariables false
set_option linter.unusedSimpArgs false
open Go.RowKit Go.WideMaps Go.Maps Go.Proofs.YtbgcemijihpakaaW.PrintWords Go.Proofs.YtbgcemijihpakaaW.PrintLast Go.Proofs.YtbgcemijihpakaaW.PrintMore
set_option maxRecDepth 1000000 in
set_option maxHeartbeats 4000000 in
theorem two_calls (B base g : Nat) (bs : List Int) (w : World) (h : RdSt w base B bs) (hb : ∀ x ∈ bs, 0 ≤ x ∧ x ≤ 255) (hx : RBox w g B) :
    Calls Try.prog 34 #[.pointer (some ⟨g, 0, none⟩)] w fun e w' => Got (pGet 2 bs) (isNum .i64) base B w e w' := by
  have HS := Aside0.mk h
  have HBY := Aside0.mk hb
  have HX := Aside0.mk hx
  clear h hb hx
  go_enter Try.func34, Try.ntmps34
  go_wp2_with ((with_reducible refine gate_dst (N := 2) rfl ?_); refine load78 HX.out rfl (.tmp 0) rfl rfl ?_)
  refine (get_calls B base 2 bs _ HS.out HBY.out (by omega)).mono ?_
  rintro e w1 hg
  rcases hp : pGet 2 bs with c | ⟨x, r⟩
  · obtain ⟨O1, rfl⟩ := hg.no hp
    have HP := Aside0.mk hp
    have HO1 := Aside0.mk O1
    clear hg hp O1
    exact ⟨rfl, Got.mk_no HP.out HO1.out rfl⟩
  · obtain ⟨O1, v, rfl, rfl, S1, b1⟩ := hg.yes hp
    have HP := Aside0.mk hp
    have HO1 := Aside0.mk O1
    have HS1 := Aside0.mk S1
    have HB1 := Aside0.mk b1
    have hxx := pGet_bd hp HBY.out
    have hx0 := hxx.1
    have hx1 : x ≤ 65535 := by have := hxx.2.1; omega
    clear hg hp O1 S1 b1 hxx
    go_wp2_with fail
    go_ret
    exact Got.mk_yes HP.out HO1.out _ rfl rfl HS1.out HB1.out
/-- where the loop over rows stands -/
structure KSt {α : Type} (d : Kd α) (e : TypeId) (p : Rd α) (w wr : World) (base B g n : Nat) (bs : List Int) (v : Value) (xs : List α) (r : List Int) (m : Nat) : Prop where
  row : d.R e wr w.heap.size (fun _ => True) v xs
  st : RdSt wr base B r
  only : RdOnly w wr B
  bd : ∀ y ∈ r, 0 ≤ y ∧ y ≤ 255
  eq : pReps p n bs = pre xs (pReps p m r)
  len : xs.length + m = n
  box : RBox wr g B
set_option maxRecDepth 1000000 in
set_option maxHeartbeats 4000000 in
theorem taken_int (B base g n : Nat) (bs : List Int) (w : World) (h : RdSt w base B bs) (hb : ∀ x ∈ bs, 0 ≤ x ∧ x ≤ 255) (hx : RBox w g B) (hn : n ≤ 65535) :
    Calls Try.prog 33 #[.int .i64 n, .func (.func 34) #[] #[.pointer (some ⟨g, 0, none⟩)]] w fun e w' => Got (pReps (pGet 2) n bs) (isList w.heap.size) base B w e w' := by
  have hgB : g ≠ B := by
    rintro rfl
    obtain ⟨A, c, h1, _⟩ := h
    unfold RBox at hx
    rw [h1] at hx
    injection hx with hx
    injection hx with _ hx _
    cases hx
  have HGB := Aside0.mk hgB
  have HGL := Aside0.mk (blk_lt hx)
  have HLT := Aside0.mk (rd_lt h)
  have HK0 := Aside0.mk (show KSt (Kd.int .i64) 3 (pGet 2) w w base B g n bs (.slice none 0 0) [] bs n from ⟨Kd.R_nil _ _ _ _ _, h, only_refl _ _, hb, (pre_nil _).symm, by simp, hx⟩)
  have HN := Aside0.mk hn
  clear h hb hx hgB hn
  go_enter Try.func33, Try.ntmps33
  go_wp2_with fail
  go_loopg [5, 7] n (fun gg s5 s7 wr => ∃ (m k : Nat) (A : Option Addr) (q c : Nat) (xs r : List Int), m = gg ∧ s5 = .slice A q c ∧ s7 = .int .i64 (k : Int) ∧ k + m = n ∧ Aside0 (KSt (Kd.int .i64) 3 (pGet 2) w wr base B g n bs (.slice A q c) xs r m))
  case atStart => exact ⟨_, 0, none, 0, 0, [], bs, rfl, rfl, rfl, by omega, HK0⟩
  case round =>
    obtain ⟨m, k, A, q, c, xs, r, rfl, rfl, rfl, hkm, HL⟩ := hrel
    rcases m with _ | m
    · have HP2 := Aside0.mk (show pReps (pGet 2) n bs = .ok (xs, r) by rw [HL.out.eq, pre_done])
      obtain rfl : k = n := by omega
      have hd : decide ((k : Int) < (k : Int)) = false := decide_eq_false (by omega)
      go_wp2_with fail
      go_ret
      exact Got.mk_yes HP2.out HL.out.only _ rfl HL.out.row HL.out.st HL.out.bd
    · have hkn : k < n := by omega
      have hd : decide ((k : Int) < (n : Int)) = true := decide_eq_true (by omega)
      have hn5 := HN.out
      rcases hp2 : pGet 2 r with c2 | ⟨x2, r2⟩
      · have HP2 := Aside0.mk (show pReps (pGet 2) n bs = .error c2 by rw [HL.out.eq, pre_fail m xs hp2])
        have HQ2 := Aside0.mk hp2
        clear hp2
        go_wp2_with fail
        refine (two_calls B base g r wr HL.out.st HL.out.bd HL.out.box).mono ?_
        rintro e w2 hg
        obtain ⟨O2, rfl⟩ := hg.no HQ2.out
        exact ⟨rfl, Got.mk_no HP2.out (only_trans HL.out.only O2) rfl⟩
      · have HQ2 := Aside0.mk hp2
        clear hp2
        go_wp2_with fail
        refine (two_calls B base g r wr HL.out.st HL.out.bd HL.out.box).mono ?_
        rintro e w2 hg
        obtain ⟨O2, v2, rfl, rfl, S2, b2⟩ := hg.yes HQ2.out
        have HR2 := Aside0.mk (R_only HL.out.row O2 HLT.out)
        have HS2 := Aside0.mk S2
        have HB2 := Aside0.mk b2
        have HO2 := Aside0.mk (only_trans HL.out.only O2)
        have HX2 := Aside0.mk (HL.out.box.only O2 HGB.out)
        have HN2 := Aside0.mk (show xs.length + (m + 1) = n from HL.out.len)
        have HE2 := Aside0.mk (HL.out.eq.trans (pre_step m xs HQ2.out))
        clear hg O2 S2 b2 HL
        go_wp2_with ((with_reducible refine gate_builtin (b := .append) (xs := #[.tmp 9, .tmp 12]) rfl ?_); at_builtin; refine Kd.R_append (Kd.int .i64) (w0 := w2) w.heap.size rfl (.tmp 9) (.tmp 12) 48 3 (.int .i64 0) 8 rfl Try.underlying48 info3 rfl (by decide) (by omega) _ xs x2 [.int .i64 x2] (fun _ => True) (fun _ => False) rfl rfl rfl (fun _ h => h.elim) (fun _ _ => trivial) HR2.out (Below.refl _ _) HO2.out.size ?aL ?_; (case aL => have := HN2.out; have := HN.out; omega); intro v3 w3 HR3 HB3 HG3 HA3; obtain ⟨A3, n3, c3, hv3⟩ : ∃ A n c, v3 = .slice A n c := (by obtain ⟨A, c, h⟩ := Kd.R_slice HR3; exact ⟨A, _, c, h⟩); subst hv3; have HRR := Aside0.mk HR3; have HGG := Aside0.mk HG3; clear HR3 HB3 HG3 HA3)
        have HFR := Aside0.mk (show ∀ k, (Value.slice A q c).ownBlock = some k → w.heap.size ≤ k from fun k hk => by
          obtain ⟨_, inner, ho, _⟩ := HR2.out
          exact own_base ho k hk)
        have HL3 := Aside0.mk (show KSt (Kd.int .i64) 3 (pGet 2) w w3 base B g n bs (.slice A3 n3 c3) (xs ++ [x2]) r2 m from
          ⟨HRR.out, HS2.out.grown HGG.out (own3 HR2.out (by decide) (by decide)), only_grown HO2.out HGG.out HFR.out, HB2.out, HE2.out, by have := HN2.out; simp; omega,
           HX2.out.grown HGG.out (fun he => by have := HFR.out _ he.symm; have := HGL.out; omega)⟩)
        go_roundg m
        case measure => omega
        case rel => exact ⟨m, k + 1, A3, n3, c3, _, r2, rfl, rfl, by simp, by omega, HL3⟩
end Go.Proofs.Ytbgcemijihpakaa.XA
end
section
namespace Go.Proofs.Ytbgcemijihpakaa.XA
set_option linter.unusedVariables false
set_option linter.unusedSimpArgs false
open Go.RowKit Go.WideMaps Go.Maps Go.Proofs.YtbgcemijihpakaaW.PrintWords Go.Proofs.YtbgcemijihpakaaW.PrintLast Go.Proofs.YtbgcemijihpakaaW.PrintMore
def pBind {α β : Type} (p : Rd α) (f : α → Rd β) : Rd β := fun bs => match p bs with
 | .error c => .error c
 | .ok (x, r) => f x r
def pRet {α : Type} (x : α) : Rd α := fun bs => .ok (x, bs)
theorem pBind_ok {α β : Type} {p : Rd α} {f : α → Rd β} {bs r : List Int} {x : α} (h : p bs = .ok (x, r)) : pBind p f bs = f x r := by unfold pBind; rw [h]
theorem pBind_no {α β : Type} {p : Rd α} {f : α → Rd β} {bs : List Int} {c : Int} (h : p bs = .error c) : pBind p f bs = .error c := by unfold pBind; rw [h]
section
variable {P : Program} {ops : Array Oper} {Q : Exit → Act → World → Prop}
/-- A call that may panic, in a region that draws its order. -/
theorem goes2_ {oi : Oper} {N : Option Tmp} {a : Act} {w : World} {K : Act → World → Prop} {f : FuncId} {fn : Func} {ars : Array Operand} {ts : Array TypeId} (hf : P.funcs[f]? = some fn) (hname : (fn.name == "runtime.NumGoroutine") = false) (hb : fn.body.isSome = true) (args : Array Value)
  (hw : Region.wanted oi (yielded ops a.tmps) = true) (hN : oi.dst = N) (hop : oi.op = .call { callee := .value (.func f), args := ars, argTypes := ts }) (hargs : ars.map a.eval = args)
  (h : Calls P f args w fun e w' => (∃ v, e = .returned v ∧ K (a.put N v) w') ∨ ∃ ch, e = .panicked ch ∧ Q (.panic ch) a w') : if Region.wanted oi (yielded ops a.tmps) = true then Oper.wp P oi a w K Q else K (a.put N undef) w := by
 have he := enters_ hf hname hb args w
 have hrun : (execOp a.eval oi).run P w = .ok (.enter f args) w := by
  unfold execOp
  simp [hop, resolve, Deferred.ofValue, invoke, Act.eval, hargs, he]
 rw [if_pos hw]
 subst hN
 unfold Oper.wp
 rw [hrun, Oper.upon_enter]
 refine h.mono fun e w'' hh => ?_
 rcases hh with ⟨v, rfl, hk⟩ | ⟨ch, rfl, hq⟩
 ·exact hk
 ·exact hq
end
section
variable {o : Oper} {a : Act}
theorem run78 {w : World} {g B : Nat} (hX : RBox w g B) (y : Operand) (ho : o.op = .load 78 y) (hy : a.eval y = .pointer (some ⟨g, 0, none⟩)) : (execOp a.eval o).run Try.prog w = .ok (.value (.agg #[.pointer (some ⟨B, 0, none⟩)])) w := by
 have hl := load_agg (w := w) (t := 78) (n := 1) (a := ⟨g, 0, none⟩) (cs := [.pointer (some ⟨B, 0, none⟩)]) agg78 size78 rfl (cells_box2 hX)
 simp only [execOp, ho, hy]
 simp [hl, Result.andThen]
end
/-- the result's box -/
def ZBox (w : World) (g : Nat) (z : Array Value) (t : TypeId) : Prop := w.heap[g]? = some (.cells z t (0, 0))
theorem ZBox.only {w w1 : World} {g X : Nat} {z : Array Value} {t : TypeId} (h : ZBox w g z t) (ho : RdOnly w w1 X) (hn : g ≠ X) : ZBox w1 g z t := (ho.block g (blk_lt h) (by simpa using hn)).trans h
theorem ZBox.below {w w1 : World} {g : Nat} {z : Array Value} {t : TypeId} (h : ZBox w g z t) (hb : Below w.heap.size w w1) : ZBox w1 g z t := (hb.block g (blk_lt h)).trans h
theorem RBox.below {w w1 : World} {g B : Nat} (h : RBox w g B) (hb : Below w.heap.size w w1) : RBox w1 g B := (hb.block g (blk_lt h)).trans h
theorem rbox_ne {w : World} {g B X base : Nat} {bs : List Int} (h : RBox w g X) (hs : RdSt w base B bs) : g ≠ B := by
 rintro rfl
 obtain ⟨A, c, h1, _⟩ := hs
 unfold RBox at h
 rw [h1] at h
 injection h with h
 injection h with _ h _
 cases h
theorem ZBox.row {w : World} {g : Nat} {z : Array Value} {t : TypeId} (h : ZBox w g z t) (cs : Array Value) : ZBox (w.setRow g cs) g cs t := setRow_heap w g z cs t (0, 0) h
theorem ZBox.at {w : World} {g : Nat} {z : Array Value} {t : TypeId} (h : ZBox w g z t) (j : Nat) (v : Value) (hj : z[j]? = some v) : w.cell? ⟨g, j, none⟩ = some v := by
 unfold ZBox at h
 simp only [World.cell?, h]
 simpa using hj
theorem grown_row (w : World) (g : Nat) (cs : Array Value) : w.grownBy (w.setRow g cs) (some g) := ⟨rfl, rfl, rfl, by rw [setRow_size]; exact Nat.le_refl _, fun k _ hk => setRow_other w g k cs (by simpa using hk)⟩
def is88 : World → S88 → Value → Prop := fun _ x v => v = .agg #[.int .i64 x.f0, .int .i64 x.f1]
def pRing : Rd S88 := pBind (pGet 1) fun p => pBind (pGet 2) fun n => pRet ⟨p, n⟩
set_option maxRecDepth 1000000 in
set_option maxHeartbeats 4000000 in
theorem ring_calls (B base g : Nat) (bs : List Int) (w : World) (h : RdSt w base B bs) (hb : ∀ x ∈ bs, 0 ≤ x ∧ x ≤ 255) (hx : RBox w g B) :
  Calls Try.prog 39 #[.pointer (some ⟨g, 0, none⟩)] w fun e w' => Got (pRing bs) is88 base B w e w' := by
 have HNE := Aside0.mk (rbox_ne hx h)
 have HLT := Aside0.mk (rd_lt h)
 have HBY := Aside0.mk hb
 have HB := Aside0.mk (below_a w (.cells #[.int .i64 0, .int .i64 0] 88))
 have HS := Aside0.mk (h.below HB.out)
 have HX := Aside0.mk (hx.below HB.out)
 have HZ := Aside0.mk (show ZBox (w.alloc (.cells #[.int .i64 0, .int .i64 0] 88)) w.heap.size #[.int .i64 0, .int .i64 0] 88 from heap_alloc_new w _)
 clear h hb hx
 go_enter Try.func39, Try.ntmps39
 go_upto_region 1 with fail
 have HW := Aside0.mk (of_below B HB.out)
 generalize w.alloc (.cells #[.int .i64 0, .int .i64 0] 88) = wa at *
 refine start_ (n := 7) (S := fun w_ => RBox w_ g B) (ds := [6]) #[false, false, false, false, false, false, false] (by kernel_rfl) rfl rfl (HX.out.below (drew_below wa)) (fun hHeld => ?_)
 have HHX := Aside0.mk hHeld
 clear hHeld
 have HDB := Aside0.mk (drew_below wa)
 generalize wa.drew = wv at *
 refine take_ (i := 0) (N := some 2) (v := ?_) (a' := ?_) #[true, false, false, false, false, false, false] rfl rfl (by kernel_rfl) (fun _ _ _ h => h) (Or.inl ⟨by rfl, ?_⟩) HHX.out ?_ ?_
 rotate_left
 ·rintro w_ s
  refine run78 s (.tmp 0) ?_ ?_ <;> rfl
 rotate_left
 ·simp only [Act.put, List.setIfInBounds_toArray, List.set_cons_zero, List.set_cons_succ, i64_w, i32_w]
  rfl
 refine take_ (i := 2) (N := some 4) (v := ?_) (a' := ?_) #[true, false, true, false, false, false, false] rfl rfl (by kernel_rfl) (fun _ _ _ h => h) (Or.inl ⟨by rfl, ?_⟩) HHX.out ?_ ?_
 rotate_left
 ·rintro w_ s
  refine run78 s (.tmp 0) ?_ ?_ <;> rfl
 rotate_left
 ·simp only [Act.put, List.setIfInBounds_toArray, List.set_cons_zero, List.set_cons_succ, i64_w, i32_w]
  rfl
 have HSv := Aside0.mk (HS.out.below HDB.out)
 have HZv := Aside0.mk (HZ.out.below HDB.out)
 have HOv := Aside0.mk (only_trans HW.out (of_below B HDB.out))
 refine one_ (i := 1) (N := some 3) #[true, true, true, false, false, false, false] rfl rfl (by kernel_rfl) (by decide) (fun K hK => ?_)
 refine goes2_ Try.func35 (by kernel_rfl) rfl #[.agg #[.pointer (some ⟨B, 0, none⟩)]] (by rfl) rfl rfl (by first | rfl | (simp only [List.map_toArray, List.map_cons, List.map_nil]; rfl) | simp) ?_
 refine (byte_calls B base bs wv HSv.out HBY.out).mono ?_
 rintro e w1 hg
 rcases hp : pGet 1 bs with c | ⟨x, r⟩
 ·obtain ⟨O1, rfl⟩ := hg.no hp
  exact .inr ⟨_, rfl, rfl, Got.mk_no (by unfold pRing; exact pBind_no hp) (only_trans HOv.out O1) rfl⟩
 ·obtain ⟨O1, v, rfl, rfl, S1, b1⟩ := hg.yes hp
  have HP := Aside0.mk hp
  have HO1 := Aside0.mk (only_trans HOv.out O1)
  have HS1 := Aside0.mk S1
  have HB1 := Aside0.mk b1
  have HX1 := Aside0.mk (HHX.out.only O1 HNE.out)
  have HZ1 := Aside0.mk (HZv.out.only O1 (by have := HLT.out; omega))
  clear hg hp O1 S1 b1
  refine .inl ⟨_, rfl, ?_⟩
  refine hK.out _ _ HX1.out (fun _ => ?_)
  clear hK K
  refine norm_ (a' := ?_) ?_ ?_
  rotate_left
  ·show Act.put _ (some 3) _ = _
   simp only [Act.put, List.setIfInBounds_toArray, List.set_cons_zero, List.set_cons_succ, i64_w, i32_w]
   rfl
  refine one_ (i := 3) (N := some 5) #[true, true, true, true, false, false, false] rfl rfl (by kernel_rfl) (by decide) (fun K hK => ?_)
  refine goes2_ Try.func31 (by kernel_rfl) rfl #[.agg #[.pointer (some ⟨B, 0, none⟩)], .int .i64 2] (by rfl) rfl rfl (by first | rfl | (simp only [List.map_toArray, List.map_cons, List.map_nil]; rfl) | simp) ?_
  refine (get_calls B base 2 r w1 HS1.out HB1.out (by omega)).mono ?_
  rintro e w2 hg
  rcases hp : pGet 2 r with c | ⟨y, r2⟩
  ·obtain ⟨O2, rfl⟩ := hg.no hp
   exact .inr ⟨_, rfl, rfl, Got.mk_no (by unfold pRing; rw [pBind_ok HP.out]; exact pBind_no hp) (only_trans HO1.out O2) rfl⟩
  ·obtain ⟨O2, v, rfl, rfl, S2, b2⟩ := hg.yes hp
   have HP2 := Aside0.mk hp
   have HO2 := Aside0.mk (only_trans HO1.out O2)
   have HS2 := Aside0.mk S2
   have HB2 := Aside0.mk b2
   have HX2 := Aside0.mk (HX1.out.only O2 HNE.out)
   have HZ2 := Aside0.mk (HZ1.out.only O2 (by have := HLT.out; omega))
   have hyy := pGet_bd hp HB1.out
   have hy0 := hyy.1
   have hy1 : y ≤ 65535 := by have := hyy.2.1; omega
   have hwr : wrap64 y = y := (by unfold wrap64; omega)
   clear hg hp O2 S2 b2 hyy
   refine .inl ⟨_, rfl, ?_⟩
   refine hK.out _ _ HX2.out (fun _ => ?_)
   clear hK K
   refine norm_ (a' := ?_) ?_ ?_
   rotate_left
   ·show Act.put _ (some 5) _ = _
    simp only [Act.put, List.setIfInBounds_toArray, List.set_cons_zero, List.set_cons_succ, i64_w, i32_w]
    rfl
   refine pure_ (i := 4) (N := some 6) (v := ?_) (a' := ?_) #[true, true, true, true, true, false, false] rfl rfl (by kernel_rfl) (fun _ _ _ h => h) (Or.inl ⟨by rfl, ?_⟩) ?_ ?_
   rotate_left
   ·intro w_
    go_simp
    with_reducible rfl
   rotate_left
   ·simp only [Act.put, List.setIfInBounds_toArray, List.set_cons_zero, List.set_cons_succ, i64_w, i32_w, hwr]
    rfl
   refine pure_ (i := 5) (N := some 7) (v := ?_) (a' := ?_) #[true, true, true, true, true, true, false] rfl rfl (by kernel_rfl) (fun _ _ _ h => h) (Or.inl ⟨by rfl, ?_⟩) ?_ ?_
   rotate_left
   ·intro w_
    go_simp
    with_reducible rfl
   rotate_left
   ·simp only [Act.put, List.setIfInBounds_toArray, List.set_cons_zero, List.set_cons_succ, i64_w, i32_w]
    rfl
   refine last_ (i := 6) (N := none) #[true, true, true, true, true, true, true] rfl rfl (by kernel_rfl) (by decide) (fun K hK => ?_)
   rw [if_pos (by rfl)]
   refine wp_store_row 88 (.tmp 1) (.tmp 7) rfl w.heap.size #[.int .i64 x, .int .i64 y] rfl rfl 88 _ HZ2.out (by kernel_rfl) rfl (by simp [Value.oneCell']) ?_
   refine hK.out _ _ ?_
   clear hK K
   have HZ3 := Aside0.mk (ZBox.row HZ2.out #[.int .i64 x, .int .i64 y])
   have HG3 := Aside0.mk (grown_row w2 w.heap.size #[.int .i64 x, .int .i64 y])
   have HS3 := Aside0.mk (HS2.out.grown HG3.out (fun k hk => by injection hk with hk; subst hk; exact ⟨88, _, HZ2.out, by decide, by decide⟩))
   have HO3 := Aside0.mk (only_grown HO2.out HG3.out (fun k hk => by injection hk with hk; omega))
   have HP3 := Aside0.mk (show pRing bs = .ok (⟨x, y⟩, r2) by unfold pRing; rw [pBind_ok HP.out, pBind_ok HP2.out]; rfl)
   clear HG3
   generalize w2.setRow w.heap.size #[.int .i64 x, .int .i64 y] = w3 at *
   refine done_ (by kernel_rfl) ?_
   go_wp2_with fail
   (try simp only [Exit.inBlock, Exit.then])
   refine bodyPost_ret (results_cell_row rfl _ _ w.heap.size 88 #[.int .i64 x, .int .i64 y] (0, 0) _ rfl HZ3.out Try.underlying88 rfl (by kernel_rfl)) rfl ?_
   exact Got.mk_yes HP3.out HO3.out _ rfl rfl HS3.out HB2.out
end Go.Proofs.Ytbgcemijihpakaa.XA
end
