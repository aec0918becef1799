/- ceil.Check: the contract, the ways up to the closures. -/
import Derived.Test.YtflkbheginhfiaaHA
import Derived.Laws.EntriesVeiled
import Derived.Maps.RangeRun
namespace Go.Proofs.Ytflkbheginhfiaa.XA
set_option linter.unusedVariables false
set_option linter.unusedSimpArgs false
open Go.RowKit Go.WideMaps Go.Maps Go.ChangeMaps Go.MapKept Go.Proofs.YtflkbheginhfiaaW.PrintWords Go.Proofs.YtflkbheginhfiaaW.PrintLast Go.Proofs.YtflkbheginhfiaaW.PrintMore
/-! ### what Check answers -/
def okRes (rs : List S73) (i : Nat) : Prop := ¬ (kindOf rs i < 1 ∨ 3 < kindOf rs i ∨ kindOf rs i = 2 ∧ (linkOf rs i < 0 ∨ (rs.length : Int) ≤ linkOf rs i))
structure RefsOk (ts : List S64) (rs : List S73) (is : List S66) : Prop where
  t : ∀ j, j < ts.length → risesF rs.length (-1) (ts.getD j z64).f5 = true
  i : ∀ j, j < is.length → risesF rs.length (-1) (is.getD j z66).f3 = true
  r : ∀ j, j < rs.length → okRes rs j
theorem RefsOk.links {ts : List S64} {rs : List S73} {is : List S66} (h : RefsOk ts rs is) : LinksOk rs := fun i hi h2 => by
  have := h.r i hi
  unfold okRes at this
  omega
theorem rises_range (n : Nat) : ∀ (l : List Int) (last : Int), risesF n last l = true → ∀ r ∈ l, last < r ∧ r < n
  | [], _, _, r, hr => by simp at hr
  | q :: l, last, h, r, hr => by
    unfold risesF at h
    split at h
    · cases h
    · rcases List.mem_cons.mp hr with rfl | hr
      · omega
      · have := rises_range n l q h r hr
        omega
/-- the closure 'internal' in its block -/
def FnAt (w : World) (F B : Nat) : Prop := w.heap[F]? = some (.cells #[.func (.func 29) #[] #[.pointer (some ⟨B, 0, none⟩)]] 78 (0, 0))
theorem FnAt.below {w w1 : World} {F B : Nat} (h : FnAt w F B) (hB : Below w.heap.size w w1) : FnAt w1 F B := (hB.block F (blk_lt h)).trans h
theorem FnAt.grown {w w1 : World} {F B : Nat} {row : Option Nat} (h : FnAt w F B) (hg : w.grownBy w1 row) (hne : some F ≠ row) : FnAt w1 F B := (hg.block F (blk_lt h) hne).trans h
theorem FnAt.cell {w : World} {F B : Nat} (h : FnAt w F B) : w.cell? ⟨F, 0, none⟩ = some (.func (.func 29) #[] #[.pointer (some ⟨B, 0, none⟩)]) := by
  unfold FnAt at h
  simp [World.cell?, h]
theorem MapAt.grown {w w1 : World} {b : Nat} {l : List Nat} {row : Option Nat} (h : MapAt w b l) (hg : w.grownBy w1 row) (hne : some b ≠ row) : MapAt w1 b l := ⟨(hg.block b (map_lt h) hne).trans h.1, h.2⟩
theorem ents_born (l : List Nat) : (ents l).map (·.born) = List.range l.length := by
  unfold ents
  rw [List.map_map]
  conv => rhs; rw [← List.map_id (List.range l.length)]
  apply List.map_congr_left
  intro i _
  rfl
theorem set_same {w : World} {r : Nat} {x : Obj} (h : w.heap[r]? = some x) (o : Obj) : (setBlock w r o).heap[r]? = some o := by
  have hr : r < w.heap.size := by
    rcases Nat.lt_or_ge r w.heap.size with hb | hb
    · exact hb
    · rw [Array.getElem?_eq_none hb] at h; cases h
  simp [setBlock, hr]
theorem set_other {w : World} {r i : Nat} (o : Obj) (h : i ≠ r) : (setBlock w r o).heap[i]? = w.heap[i]? := by
  unfold setBlock
  show (w.heap.setIfInBounds r o)[i]? = _
  rw [Array.getElem?_setIfInBounds, if_neg (fun e => h e.symm)]
/-- a step of the loop over the map: what 'next' leaves, where an entry is left -/
theorem iter_next {w : World} {R b : Nat} {l : List Nat} {seen : Array Nat} (hI : w.heap[R]? = some (.mapIter (some b) l.length seen l.length)) (hM : MapAt w b l) (hne : R ≠ b) :
    ((leftOf (ents l).toArray seen).size = 0 ∧ ∀ ty, (Instr.next (.pointer (some ⟨R, 0, none⟩)) false ty).run Try.prog w = .ok (.tuple #[.bool false]) w) ∨
    ∃ i w2, i < l.length ∧ seen.contains i = false ∧ (leftOf (ents l).toArray (seen.push i)).size < (leftOf (ents l).toArray seen).size ∧ (∀ ty, (Instr.next (.pointer (some ⟨R, 0, none⟩)) false ty).run Try.prog w = .ok (.tuple #[.bool true, .int .i64 (i : Int), .int .i64 ((l.getD i 0 : Nat) : Int)]) w2) ∧
      (Instr.entry (.pointer (some ⟨R, 0, none⟩))).run Try.prog w2 = .ok (.tuple #[.int .i64 (i : Int), .int .i64 ((l.getD i 0 : Nat) : Int)]) w2 ∧ w.grownBy w2 (some R) ∧ w2.heap[R]? = some (.mapIter (some b) l.length (seen.push i) l.length) := by
  have hold : ∀ x ∈ (ents l).toArray.toList, x.born < l.length := by
    intro x hx
    obtain ⟨i, hi, rfl⟩ := mem_ents (l := l) (by simpa using hx)
    exact hi
  have hnd : ((ents l).toArray.toList.map (·.born)).Nodup := by
    rw [show (ents l).toArray.toList = ents l from rfl, ents_born]
    exact List.nodup_range
  have law := fun ty => run_next_at (P := Try.prog) w ty R b l.length l.length seen (ents l).toArray l.length hI hM.1 hold (Nat.le_refl _)
  rcases law 0 with ⟨h0, hrun⟩ | ⟨e, he, w1, hw1, hrun⟩
  · exact .inl ⟨h0, fun ty => hrun⟩
  · right
    obtain ⟨hmem, hsn⟩ := mem_left he
    obtain ⟨i, hi, rfl⟩ := mem_ents (l := l) (by simpa using hmem)
    have hh : w1.heap = w.heap := by rcases hw1 with rfl | rfl <;> rfl
    have hI1 : w1.heap[R]? = some (.mapIter (some b) l.length seen l.length) := by rw [hh]; exact hI
    have hsame := set_same hI1 (.mapIter (some b) l.length (seen.push i) l.length)
    have hbm : (setBlock w1 R (.mapIter (some b) l.length (seen.push i) l.length)).heap[b]? = some (.map (ents l).toArray l.length) := by
      rw [set_other _ (fun e => hne e.symm), hh]
      exact hM.1
    refine ⟨i, _, hi, hsn, left_shrinks (ents l).toArray seen (ent l i) he, fun ty => hrun, run_entry_at _ R b l.length seen (ents l).toArray l.length (ent l i) hsame hbm hmem hnd, ⟨?_, ?_, ?_, ?_, fun k hk hk2 => ?_⟩, hsame⟩
    · rcases hw1 with rfl | rfl <;> rfl
    · rcases hw1 with rfl | rfl <;> rfl
    · rcases hw1 with rfl | rfl <;> rfl
    · simp [setBlock, hh]
    · rw [set_other _ (fun e => hk2 (by rw [e])), hh]
/-- behind the numbers: rings, and internal resources -/
def Ends (rs : List S73) : Prop := ∀ i, i < rs.length → chase rs (rs.length + 1) i ≠ none
structure InnerOk (ts : List S64) (rs : List S73) (is : List S66) : Prop where
  t : ∀ j, j < ts.length → cntF rs (ts.getD j z64).f5 ≤ 1
  i : ∀ j, j < is.length → cntF rs (is.getD j z66).f3 = 0
  r : ∀ j, j < rs.length → ∀ r, chase rs (rs.length + 1) j = some r → r ≠ j → kindOf rs r ≠ 3
def CheckSays (ts : List S64) (rs : List S73) (is : List S66) (v : Int) : Prop :=
  v = 80 ∧ ¬ RefsOk ts rs is ∨ v = 81 ∧ RefsOk ts rs is ∧ ¬ Ends rs ∨ v = 82 ∧ RefsOk ts rs is ∧ Ends rs ∧ ¬ InnerOk ts rs is ∨ v = 0 ∧ RefsOk ts rs is ∧ Ends rs ∧ InnerOk ts rs is
set_option maxRecDepth 1000000 in
set_option maxHeartbeats 4000000 in
theorem check_calls (x : CV) (AT : Option Addr) (cT : Nat) (AR : Option Addr) (cR : Nat) (AI : Option Addr) (cI : Nat) (ts : List S64) (rs : List S73) (is : List S66) (w : World) (hC : Cfg w AT cT AR cR AI cI ts rs is) (hsz : rs.length ≤ 4398046511104) (ht : ts.length ≤ 4398046511104) (hi : is.length ≤ 4398046511104) :
    Calls Try.prog 11 #[.agg #[.string x.s0, .string x.s1, .bool x.b2, .bool x.b3, .bool x.b4, .bool x.b5, .bool x.b6, .bool x.b7, .bool x.b8, .bool x.b9, .slice x.A10 x.n10 x.c10, .slice AT ts.length cT, .slice AR rs.length cR, .slice x.A13 x.n13 x.c13, .slice x.A14 x.n14 x.c14, .slice x.A15 x.n15 x.c15, .slice AI is.length cI, .slice x.A17 x.n17 x.c17]] w fun e w' => Below w.heap.size w w' ∧ ∃ v, e = .returned (.int .i64 v) ∧ CheckSays ts rs is v := by
  have HC := Aside0.mk hC
  clear hC
  have HBX := Aside0.mk (BoxAt.made w x AT cT AR cR AI cI ts.length rs.length is.length)
  have HB0 := Aside0.mk (show Below w.heap.size w (w.alloc (.cells #[.string x.s0, .string x.s1, .bool x.b2, .bool x.b3, .bool x.b4, .bool x.b5, .bool x.b6, .bool x.b7, .bool x.b8, .bool x.b9, .slice x.A10 x.n10 x.c10, .slice AT ts.length cT, .slice AR rs.length cR, .slice x.A13 x.n13 x.c13, .slice x.A14 x.n14 x.c14, .slice x.A15 x.n15 x.c15, .slice AI is.length cI, .slice x.A17 x.n17 x.c17] 36)) from (Below.refl _ _).alloc (Nat.le_refl _) _)
  go_enter Try.func11, Try.ntmps11
  go_wp2_with fail
  unfold CV.arr at HBX
  generalize w.alloc (.cells #[.string x.s0, .string x.s1, .bool x.b2, .bool x.b3, .bool x.b4, .bool x.b5, .bool x.b6, .bool x.b7, .bool x.b8, .bool x.b9, .slice x.A10 x.n10 x.c10, .slice AT ts.length cT, .slice AR rs.length cR, .slice x.A13 x.n13 x.c13, .slice x.A14 x.n14 x.c14, .slice x.A15 x.n15 x.c15, .slice AI is.length cI, .slice x.A17 x.n17 x.c17] 36) = w0 at *
  have HBX : Aside0 (BoxAt w0 w.heap.size x AT cT AR cR AI cI ts.length rs.length is.length) := HBX
  go_loopw [22] (fun i wr => ∃ k : Nat, k ≤ ts.length ∧ i = .int .i64 k ∧ Aside0 (∀ j, j < k → risesF rs.length (-1) (ts.getD j z64).f5 = true) ∧ Aside0 (BoxAt wr w.heap.size x AT cT AR cR AI cI ts.length rs.length is.length) ∧ Aside0 (Below w.heap.size w wr)) (fun i _ => ts.length - (intOf i).toNat)
  case atStart => exact ⟨0, by omega, rfl, ⟨by intro j hj; omega⟩, HBX, HB0⟩
  case round =>
    clear HBX HB0
    obtain ⟨k, hk, rfl, HP, HX, HB⟩ := hrel
    by_cases hlt : k < ts.length
    · have hd : decide ((k : Int) < (ts.length : Int)) = true := decide_eq_true (by omega)
      have HLT := Aside0.mk (Nat.succ_le_of_lt hlt)
      obtain ⟨ad, A4, c4, A5, c5, A6, c6, A7, c7, e, hta, l5, g5⟩ := task_cells (HC.out.below HB.out).t k hlt
      subst e
      have HG5 := Aside0.mk g5
      have HL5 := Aside0.mk l5
      have HTA := Aside0.mk hta
      clear g5 l5 hta
      have HTK := Aside0.mk (show ts.getD k z64 = ts.getD k z64 from rfl)
      generalize hT : ts.getD k z64 = t at *
      have HT := Aside0.mk hT
      clear hT HTK
      have hba : Below wr.heap.size wr (wr.alloc (.cells #[.string t.f0, .int .i64 t.f1, .bool t.f2, .int .i64 t.f3, .slice A4 t.f4.length c4, .slice A5 t.f5.length c5, .slice A6 t.f6.length c6, .slice A7 t.f7.length c7] 64)) := (Below.refl _ _).alloc (Nat.le_refl _) _
      have HXa := Aside0.mk (HX.out.below hba)
      have HBa := Aside0.mk (HB.out.trans (hba.mono HB.out.size))
      have HGa := Aside0.mk (Kd.C_below HG5.out hba)
      clear hba
      go_wp2_with (first | ((with_reducible refine gate_dst (N := 25) rfl ?_); refine load64 HTA.out rfl (.tmp 24) rfl rfl ?_) | ((with_reducible refine gate_dst (N := 26) rfl ?_); refine load36 HXa.out rfl (.tmp 1) rfl rfl ?_))
      clear HTA
      generalize wr.alloc (.cells #[.string t.f0, .int .i64 t.f1, .bool t.f2, .int .i64 t.f3, .slice A4 t.f4.length c4, .slice A5 t.f5.length c5, .slice A6 t.f6.length c6, .slice A7 t.f7.length c7] 64) = wa at *
      refine (rises_calls x (some ad) cT AR cR AI cI ts rs is A5 c5 t.f5 wa HGa.out HL5.out).mono ?_
      rintro e wb ⟨rfl, B2⟩
      have HXb := Aside0.mk (HXa.out.below B2)
      have HBb := Aside0.mk (HBa.out.trans (B2.mono HBa.out.size))
      clear B2
      cases hrz : risesF rs.length (-1) t.f5 with
      | false =>
        have HNO := Aside0.mk (show ¬ RefsOk ts rs is from fun h => by
          have := h.t k HLT.out
          rw [HT.out, hrz] at this
          cases this)
        clear hrz
        go_wp2_with fail
        go_ret
        exact ⟨HBb.out, _, rfl, .inl ⟨rfl, HNO.out⟩⟩
      | true =>
        have HP2 := Aside0.mk (show ∀ j, j < k + 1 → risesF rs.length (-1) (ts.getD j z64).f5 = true from fun j hj => by
          rcases Nat.lt_or_ge j k with h | h
          · exact HP.out j h
          · obtain rfl : j = k := by omega
            rw [HT.out]
            exact hrz)
        clear hrz
        go_wp2_with fail
        go_roundw
        case rel => exact ⟨k + 1, HLT.out, by go_num, HP2, HXb, HBb⟩
        case measure => have := HLT.out; simp [intOf]; omega
    · have hd : decide ((k : Int) < (ts.length : Int)) = false := decide_eq_false (by omega)
      have HTS := Aside0.mk (show ∀ j, j < ts.length → risesF rs.length (-1) (ts.getD j z64).f5 = true from fun j hj => HP.out j (by omega))
      clear HP
      have q16 := HX.out.isrs
      go_wp2_with fail
      clear q16
      go_loopw [35] (fun i wq => ∃ k : Nat, k ≤ is.length ∧ i = .int .i64 k ∧ Aside0 (∀ j, j < k → risesF rs.length (-1) (is.getD j z66).f3 = true) ∧ Aside0 (BoxAt wq w.heap.size x AT cT AR cR AI cI ts.length rs.length is.length) ∧ Aside0 (Below w.heap.size w wq)) (fun i _ => is.length - (intOf i).toNat)
      case atStart => exact ⟨0, by omega, rfl, ⟨by intro j hj; omega⟩, HX, HB⟩
      case round =>
        clear HX HB
        obtain ⟨k, hk, rfl, HP, HX, HB⟩ := hrel
        by_cases hlt : k < is.length
        · have hd : decide ((k : Int) < (is.length : Int)) = true := decide_eq_true (by omega)
          have HLT := Aside0.mk (Nat.succ_le_of_lt hlt)
          obtain ⟨ad, A3, c3, A4, c4, e, hta, l5, g5⟩ := isr_cells (HC.out.below HB.out).i k hlt
          subst e
          have HG5 := Aside0.mk g5
          have HL5 := Aside0.mk l5
          have HTA := Aside0.mk hta
          clear g5 l5 hta
          generalize hT : is.getD k z66 = t at *
          have HT := Aside0.mk hT
          clear hT
          have hba : Below wr.heap.size wr (wr.alloc (.cells #[.string t.f0, .int .i64 t.f1, .int .i64 t.f2, .slice A3 t.f3.length c3, .slice A4 t.f4.length c4] 66)) := (Below.refl _ _).alloc (Nat.le_refl _) _
          have HXa := Aside0.mk (HX.out.below hba)
          have HBa := Aside0.mk (HB.out.trans (hba.mono HB.out.size))
          have HGa := Aside0.mk (Kd.C_below HG5.out hba)
          clear hba
          go_wp2_with (first | ((with_reducible refine gate_dst (N := 38) rfl ?_); refine load66 HTA.out rfl (.tmp 37) rfl rfl ?_) | ((with_reducible refine gate_dst (N := 39) rfl ?_); refine load36 HXa.out rfl (.tmp 1) rfl rfl ?_))
          clear HTA
          generalize wr.alloc (.cells #[.string t.f0, .int .i64 t.f1, .int .i64 t.f2, .slice A3 t.f3.length c3, .slice A4 t.f4.length c4] 66) = wa at *
          refine (rises_calls x AT cT AR cR (some ad) cI ts rs is A3 c3 t.f3 wa HGa.out HL5.out).mono ?_
          rintro e wb ⟨rfl, B2⟩
          have HXb := Aside0.mk (HXa.out.below B2)
          have HBb := Aside0.mk (HBa.out.trans (B2.mono HBa.out.size))
          clear B2
          cases hrz : risesF rs.length (-1) t.f3 with
          | false =>
            have HNO := Aside0.mk (show ¬ RefsOk ts rs is from fun h => by
              have := h.i k HLT.out
              rw [HT.out, hrz] at this
              cases this)
            clear hrz
            go_wp2_with fail
            go_ret
            exact ⟨HBb.out, _, rfl, .inl ⟨rfl, HNO.out⟩⟩
          | true =>
            have HP2 := Aside0.mk (show ∀ j, j < k + 1 → risesF rs.length (-1) (is.getD j z66).f3 = true from fun j hj => by
              rcases Nat.lt_or_ge j k with h | h
              · exact HP.out j h
              · obtain rfl : j = k := by omega
                rw [HT.out]
                exact hrz)
            clear hrz
            go_wp2_with fail
            go_roundw
            case rel => exact ⟨k + 1, HLT.out, by go_num, HP2, HXb, HBb⟩
            case measure => have := HLT.out; simp [intOf]; omega
        · have hd : decide ((k : Int) < (is.length : Int)) = false := decide_eq_false (by omega)
          have HIS := Aside0.mk (show ∀ j, j < is.length → risesF rs.length (-1) (is.getD j z66).f3 = true from fun j hj => HP.out j (by omega))
          clear HP
          have q12 := HX.out.res
          go_wp2_with fail
          clear q12
          go_loopw [48] (fun i wq => ∃ k : Nat, k ≤ rs.length ∧ i = .int .i64 k ∧ Aside0 (∀ j, j < k → okRes rs j) ∧ Aside0 (BoxAt wq w.heap.size x AT cT AR cR AI cI ts.length rs.length is.length) ∧ Aside0 (Below w.heap.size w wq)) (fun i _ => rs.length - (intOf i).toNat)
          case atStart => exact ⟨0, by omega, rfl, ⟨by intro j hj; omega⟩, HX, HB⟩
          case round =>
            clear HX HB
            obtain ⟨k, hk, rfl, HP, HX, HB⟩ := hrel
            by_cases hlt : k < rs.length
            · have hd : decide ((k : Int) < (rs.length : Int)) = true := decide_eq_true (by omega)
              have HLT := Aside0.mk (Nat.succ_le_of_lt hlt)
              obtain ⟨ad, e, hta⟩ := res_cells (HC.out.below HB.out).r k hlt
              subst e
              have HTA := Aside0.mk hta
              clear hta
              have hkd : kindOf rs k = (rs.getD k z73).f1 := rfl
              have hlk : linkOf rs k = (rs.getD k z73).f2 := rfl
              generalize hT : rs.getD k z73 = t at *
              clear hT
              have hba : Below wr.heap.size wr (wr.alloc (.cells #[.string t.f0, .int .i64 t.f1, .int .i64 t.f2] 73)) := (Below.refl _ _).alloc (Nat.le_refl _) _
              have HXa := Aside0.mk (HX.out.below hba)
              have HBa := Aside0.mk (HB.out.trans (hba.mono HB.out.size))
              clear hba
              have HKD := Aside0.mk hkd
              have HLK := Aside0.mk hlk
              clear hkd hlk
              have q12 := HXa.out.res
              have hno : ¬ okRes rs k → ¬ RefsOk ts rs is := fun h h2 => h (h2.r k HLT.out)
              have HNO := Aside0.mk hno
              have hyes : okRes rs k → ∀ j, j < k + 1 → okRes rs j := fun h j hj => by
                rcases Nat.lt_or_ge j k with h1 | h1
                · exact HP.out j h1
                · obtain rfl : j = k := by omega
                  exact h
              have HYES := Aside0.mk hyes
              clear hno hyes HP
              have hok : okRes rs k ↔ ¬ (t.f1 < 1 ∨ 3 < t.f1 ∨ t.f1 = 2 ∧ (t.f2 < 0 ∨ (rs.length : Int) ≤ t.f2)) := by unfold okRes; rw [HKD.out, HLK.out]
              have HOK := Aside0.mk hok
              clear hok
              by_cases c1 : t.f1 < 1
              · have c1b : decide (t.f1 < 1) = true := decide_eq_true c1
                have HN2 := Aside0.mk (HNO.out (fun h => (HOK.out.1 h) (.inl c1)))
                go_wp2_with (first | ((with_reducible refine gate_dst (N := 51) rfl ?_); refine load73 HTA.out rfl (.tmp 50) rfl rfl ?_))
                go_ret
                exact ⟨HBa.out, _, rfl, .inl ⟨rfl, HN2.out⟩⟩
              · have c1b : decide (t.f1 < 1) = false := decide_eq_false c1
                by_cases c2 : 3 < t.f1
                · have c2b : decide (3 < t.f1) = true := decide_eq_true c2
                  have HN2 := Aside0.mk (HNO.out (fun h => (HOK.out.1 h) (.inr (.inl c2))))
                  go_wp2_with (first | ((with_reducible refine gate_dst (N := 51) rfl ?_); refine load73 HTA.out rfl (.tmp 50) rfl rfl ?_))
                  go_ret
                  exact ⟨HBa.out, _, rfl, .inl ⟨rfl, HN2.out⟩⟩
                · have c2b : decide (3 < t.f1) = false := decide_eq_false c2
                  by_cases c3 : t.f1 = 2
                  · have c3b : (t.f1 == 2) = true := by simp [c3]
                    by_cases c4 : t.f2 < 0
                    · have c4b : decide (t.f2 < 0) = true := decide_eq_true c4
                      have HN2 := Aside0.mk (HNO.out (fun h => (HOK.out.1 h) (.inr (.inr ⟨c3, .inl c4⟩))))
                      clear c3
                      go_wp2_with (first | ((with_reducible refine gate_dst (N := 51) rfl ?_); refine load73 HTA.out rfl (.tmp 50) rfl rfl ?_))
                      go_ret
                      exact ⟨HBa.out, _, rfl, .inl ⟨rfl, HN2.out⟩⟩
                    · have c4b : decide (t.f2 < 0) = false := decide_eq_false c4
                      by_cases c5 : (rs.length : Int) ≤ t.f2
                      · have c5b : decide ((rs.length : Int) ≤ t.f2) = true := decide_eq_true c5
                        have HN2 := Aside0.mk (HNO.out (fun h => (HOK.out.1 h) (.inr (.inr ⟨c3, .inr c5⟩))))
                        clear c3
                        go_wp2_with (first | ((with_reducible refine gate_dst (N := 51) rfl ?_); refine load73 HTA.out rfl (.tmp 50) rfl rfl ?_))
                        go_ret
                        exact ⟨HBa.out, _, rfl, .inl ⟨rfl, HN2.out⟩⟩
                      · have c5b : decide ((rs.length : Int) ≤ t.f2) = false := decide_eq_false c5
                        have HP2 := Aside0.mk (HYES.out (HOK.out.2 (by omega)))
                        clear c3
                        go_wp2_with (first | ((with_reducible refine gate_dst (N := 51) rfl ?_); refine load73 HTA.out rfl (.tmp 50) rfl rfl ?_))
                        go_roundw
                        case rel => exact ⟨k + 1, HLT.out, by go_num, HP2, HXa, HBa⟩
                        case measure => have := HLT.out; simp [intOf]; omega
                  · have c3b : (t.f1 == 2) = false := by simp [c3]
                    have HP2 := Aside0.mk (HYES.out (HOK.out.2 (by omega)))
                    clear c3
                    go_wp2_with (first | ((with_reducible refine gate_dst (N := 51) rfl ?_); refine load73 HTA.out rfl (.tmp 50) rfl rfl ?_))
                    go_roundw
                    case rel => exact ⟨k + 1, HLT.out, by go_num, HP2, HXa, HBa⟩
                    case measure => have := HLT.out; simp [intOf]; omega
            · have hd : decide ((k : Int) < (rs.length : Int)) = false := decide_eq_false (by omega)
              have HOKS := Aside0.mk (show RefsOk ts rs is from ⟨HTS.out, HIS.out, fun j hj => HP.out j (by omega)⟩)
              clear HP HTS HIS
              have hcw := HC.out.below HB.out
              have HRT := Aside0.mk (roots_calls x AT cT AR cR AI cI ts rs is wr hcw HOKS.out.links hsz)
              clear hcw
              go_wp2_with (first | ((with_reducible refine gate_dst (N := 80) rfl ?_); refine load36 HX.out rfl (.tmp 1) rfl rfl ?_))
              refine HRT.out.mono ?_
              rintro e wa ⟨B1, h⟩
              have HXa := Aside0.mk (HX.out.below B1)
              have HBa := Aside0.mk (HB.out.trans (B1.mono HB.out.size))
              have HSa := Aside0.mk B1.size
              have HB9 := Aside0.mk HB.out.size
              clear B1 HX HB HRT
              rcases h with ⟨rfl, i0, hi0, hnone⟩ | ⟨Bm, lm, rfl, hm, hr, hlen, hge⟩
              · have HNE := Aside0.mk (show ¬ Ends rs from fun h => h i0 hi0 hnone)
                clear hi0 hnone
                go_wp2_with fail
                go_ret
                exact ⟨HBa.out, _, rfl, .inr (.inl ⟨rfl, HOKS.out, HNE.out⟩)⟩
              · have HEN := Aside0.mk (show Ends rs from fun i hi e => by
                  have := hr.2 i (by omega)
                  rw [e] at this
                  cases this)
                have HMA := Aside0.mk hm
                have HRL := Aside0.mk hr
                have HLN := Aside0.mk hlen
                clear hm hr hlen hge
                have hbf : Below wa.heap.size wa (wa.alloc (.cells #[.func (.func 29) #[] #[.pointer (some ⟨w.heap.size, 0, none⟩)]] 78)) := (Below.refl _ _).alloc (Nat.le_refl _) _
                have HXf := Aside0.mk (HXa.out.below hbf)
                have HMf := Aside0.mk (HMA.out.below hbf)
                have HBf := Aside0.mk (HBa.out.trans (hbf.mono HBa.out.size))
                have HFf := Aside0.mk (show FnAt (wa.alloc (.cells #[.func (.func 29) #[] #[.pointer (some ⟨w.heap.size, 0, none⟩)]] 78)) wa.heap.size w.heap.size from heap_alloc_new wa _)
                clear hbf HXa HMA HBa
                have q11 := HXf.out.tasks
                go_wp2_with fail
                clear q11
                generalize (wa.alloc (.cells #[.func (.func 29) #[] #[.pointer (some ⟨w.heap.size, 0, none⟩)]] 78)) = wf at *
                have HFW := Aside0.mk (show w.heap.size ≤ wa.heap.size from Nat.le_trans HB9.out HSa.out)
                clear HB9 HSa
                generalize wa.heap.size = F at *
                go_loopw [92] (fun i wq => ∃ k : Nat, k ≤ ts.length ∧ i = .int .i64 k ∧ Aside0 (∀ j, j < k → cntF rs (ts.getD j z64).f5 ≤ 1) ∧ Aside0 (BoxAt wq w.heap.size x AT cT AR cR AI cI ts.length rs.length is.length) ∧ Aside0 (FnAt wq F w.heap.size) ∧ Aside0 (MapAt wq Bm lm) ∧ Aside0 (Below w.heap.size w wq)) (fun i _ => ts.length - (intOf i).toNat)
                case atStart => exact ⟨0, by omega, rfl, ⟨by intro j hj; omega⟩, HXf, HFf, HMf, HBf⟩
                case round =>
                  clear HXf HFf HMf HBf
                  obtain ⟨k, hk, rfl, HP, HX, HF, HM, HB⟩ := hrel
                  by_cases hlt : k < ts.length
                  · have hd : decide ((k : Int) < (ts.length : Int)) = true := decide_eq_true (by omega)
                    have HLT := Aside0.mk (Nat.succ_le_of_lt hlt)
                    obtain ⟨ad, A4, c4, A5, c5, A6, c6, A7, c7, e, hta, l5, g5⟩ := task_cells (HC.out.below HB.out).t k hlt
                    subst e
                    have HG5 := Aside0.mk g5
                    have HL5 := Aside0.mk l5
                    have HTA := Aside0.mk hta
                    have HRG := Aside0.mk (rises_range rs.length _ (-1) (HOKS.out.t k hlt))
                    clear g5 l5 hta
                    generalize hT : ts.getD k z64 = t at *
                    have HT := Aside0.mk hT
                    clear hT
                    have hba : Below wr.heap.size wr (wr.alloc (.cells #[.string t.f0, .int .i64 t.f1, .bool t.f2, .int .i64 t.f3, .slice A4 t.f4.length c4, .slice A5 t.f5.length c5, .slice A6 t.f6.length c6, .slice A7 t.f7.length c7] 64)) := (Below.refl _ _).alloc (Nat.le_refl _) _
                    have HXa := Aside0.mk (HX.out.below hba)
                    have HFa := Aside0.mk (HF.out.below hba)
                    have HMa := Aside0.mk (HM.out.below hba)
                    have HBa := Aside0.mk (HB.out.trans (hba.mono HB.out.size))
                    have HGa := Aside0.mk (Kd.C_below HG5.out hba)
                    clear hba HX HF HM HB HG5
                    go_wp2_with (first | ((with_reducible refine gate_dst (N := 95) rfl ?_); refine load64 HTA.out rfl (.tmp 94) rfl rfl ?_))
                    clear HTA
                    generalize wr.alloc (.cells #[.string t.f0, .int .i64 t.f1, .bool t.f2, .int .i64 t.f3, .slice A4 t.f4.length c4, .slice A5 t.f5.length c5, .slice A6 t.f6.length c6, .slice A7 t.f7.length c7] 64) = wc at *
                    have hcw := HC.out.below HBa.out
                    refine (count_calls w.heap.size F x (some ad) cT AR cR AI cI ts rs is A5 c5 t.f5 wc HXa.out hcw HFa.out.cell HGa.out HL5.out (fun r hr => by have := HRG.out r hr; omega)).mono ?_
                    rintro e wb ⟨rfl, rfl⟩
                    clear hcw
                    by_cases hcn : 1 < cntF rs t.f5
                    · have hcb : decide ((1 : Int) < (cntF rs t.f5 : Int)) = true := decide_eq_true (by omega)
                      have HNO := Aside0.mk (show ¬ InnerOk ts rs is from fun h => by
                        have := h.t k HLT.out
                        rw [HT.out] at this
                        omega)
                      go_wp2_with fail
                      go_ret
                      exact ⟨HBa.out, _, rfl, .inr (.inr (.inl ⟨rfl, HOKS.out, HEN.out, HNO.out⟩))⟩
                    · have hcb : decide ((1 : Int) < (cntF rs t.f5 : Int)) = false := decide_eq_false (by omega)
                      have HP2 := Aside0.mk (show ∀ j, j < k + 1 → cntF rs (ts.getD j z64).f5 ≤ 1 from fun j hj => by
                        rcases Nat.lt_or_ge j k with h | h
                        · exact HP.out j h
                        · obtain rfl : j = k := by omega
                          rw [HT.out]
                          omega)
                      go_wp2_with fail
                      go_roundw
                      case rel => exact ⟨k + 1, HLT.out, by go_num, HP2, HXa, HFa, HMa, HBa⟩
                      case measure => have := HLT.out; simp [intOf]; omega
                  · have hd : decide ((k : Int) < (ts.length : Int)) = false := decide_eq_false (by omega)
                    have HT2 := Aside0.mk (show ∀ j, j < ts.length → cntF rs (ts.getD j z64).f5 ≤ 1 from fun j hj => HP.out j (by omega))
                    clear HP
                    have q16 := HX.out.isrs
                    go_wp2_with fail
                    clear q16
                    go_loopw [105] (fun i wq => ∃ k : Nat, k ≤ is.length ∧ i = .int .i64 k ∧ Aside0 (∀ j, j < k → cntF rs (is.getD j z66).f3 = 0) ∧ Aside0 (BoxAt wq w.heap.size x AT cT AR cR AI cI ts.length rs.length is.length) ∧ Aside0 (FnAt wq F w.heap.size) ∧ Aside0 (MapAt wq Bm lm) ∧ Aside0 (Below w.heap.size w wq)) (fun i _ => is.length - (intOf i).toNat)
                    case atStart => exact ⟨0, by omega, rfl, ⟨by intro j hj; omega⟩, HX, HF, HM, HB⟩
                    case round =>
                      clear HX HF HM HB
                      obtain ⟨k, hk, rfl, HP, HX, HF, HM, HB⟩ := hrel
                      by_cases hlt : k < is.length
                      · have hd : decide ((k : Int) < (is.length : Int)) = true := decide_eq_true (by omega)
                        have HLT := Aside0.mk (Nat.succ_le_of_lt hlt)
                        obtain ⟨ad, A3, c3, A4, c4, e, hta, l5, g5⟩ := isr_cells (HC.out.below HB.out).i k hlt
                        subst e
                        have HG5 := Aside0.mk g5
                        have HL5 := Aside0.mk l5
                        have HTA := Aside0.mk hta
                        have HRG := Aside0.mk (rises_range rs.length _ (-1) (HOKS.out.i k hlt))
                        clear g5 l5 hta
                        generalize hT : is.getD k z66 = t at *
                        have HT := Aside0.mk hT
                        clear hT
                        have hba : Below wr.heap.size wr (wr.alloc (.cells #[.string t.f0, .int .i64 t.f1, .int .i64 t.f2, .slice A3 t.f3.length c3, .slice A4 t.f4.length c4] 66)) := (Below.refl _ _).alloc (Nat.le_refl _) _
                        have HXa := Aside0.mk (HX.out.below hba)
                        have HFa := Aside0.mk (HF.out.below hba)
                        have HMa := Aside0.mk (HM.out.below hba)
                        have HBa := Aside0.mk (HB.out.trans (hba.mono HB.out.size))
                        have HGa := Aside0.mk (Kd.C_below HG5.out hba)
                        clear hba HX HF HM HB HG5
                        go_wp2_with (first | ((with_reducible refine gate_dst (N := 108) rfl ?_); refine load66 HTA.out rfl (.tmp 107) rfl rfl ?_))
                        clear HTA
                        generalize wr.alloc (.cells #[.string t.f0, .int .i64 t.f1, .int .i64 t.f2, .slice A3 t.f3.length c3, .slice A4 t.f4.length c4] 66) = wc at *
                        have hcw := HC.out.below HBa.out
                        refine (count_calls w.heap.size F x AT cT AR cR (some ad) cI ts rs is A3 c3 t.f3 wc HXa.out hcw HFa.out.cell HGa.out HL5.out (fun r hr => by have := HRG.out r hr; omega)).mono ?_
                        rintro e wb ⟨rfl, rfl⟩
                        clear hcw
                        by_cases hcn : 0 < cntF rs t.f3
                        · have hcb : decide ((0 : Int) < (cntF rs t.f3 : Int)) = true := decide_eq_true (by omega)
                          have HNO := Aside0.mk (show ¬ InnerOk ts rs is from fun h => by
                            have := h.i k HLT.out
                            rw [HT.out] at this
                            omega)
                          go_wp2_with fail
                          go_ret
                          exact ⟨HBa.out, _, rfl, .inr (.inr (.inl ⟨rfl, HOKS.out, HEN.out, HNO.out⟩))⟩
                        · have hcb : decide ((0 : Int) < (cntF rs t.f3 : Int)) = false := decide_eq_false (by omega)
                          have HP2 := Aside0.mk (show ∀ j, j < k + 1 → cntF rs (is.getD j z66).f3 = 0 from fun j hj => by
                            rcases Nat.lt_or_ge j k with h | h
                            · exact HP.out j h
                            · obtain rfl : j = k := by omega
                              rw [HT.out]
                              omega)
                          go_wp2_with fail
                          go_roundw
                          case rel => exact ⟨k + 1, HLT.out, by go_num, HP2, HXa, HFa, HMa, HBa⟩
                          case measure => have := HLT.out; simp [intOf]; omega
                      · have hd : decide ((k : Int) < (is.length : Int)) = false := decide_eq_false (by omega)
                        have HI2 := Aside0.mk (show ∀ j, j < is.length → cntF rs (is.getD j z66).f3 = 0 from fun j hj => HP.out j (by omega))
                        clear HP
                        have hrg := run_range_map (P := Try.prog) wr 75 3 3 Bm (ents lm).toArray lm.length Try.underlying75 HM.out.1
                        go_wp2_with fail
                        have hbi : Below wr.heap.size wr (wr.alloc (.mapIter (some Bm) lm.length #[] lm.length)) := (Below.refl _ _).alloc (Nat.le_refl _) _
                        have HXi := Aside0.mk (HX.out.below hbi)
                        have HFi := Aside0.mk (HF.out.below hbi)
                        have HMi := Aside0.mk (HM.out.below hbi)
                        have HBi := Aside0.mk (HB.out.trans (hbi.mono HB.out.size))
                        have HIi := Aside0.mk (heap_alloc_new wr (.mapIter (some Bm) lm.length #[] lm.length))
                        have HRn := Aside0.mk (show wr.heap.size ≠ Bm ∧ wr.heap.size ≠ w.heap.size ∧ wr.heap.size ≠ F ∧ w.heap.size ≤ wr.heap.size from
                          ⟨fun e => by have := map_lt HM.out; omega, fun e => by have := HX.out.lt; omega, fun e => by have := blk_lt HF.out; omega, HB.out.size⟩)
                        clear hbi hrg HX HF HM HB
                        generalize wr.alloc (.mapIter (some Bm) lm.length #[] lm.length) = wi at *
                        generalize wr.heap.size = R at *
                        go_loopw [] (fun wq => ∃ seen : Array Nat, Aside0 (wq.heap[R]? = some (.mapIter (some Bm) lm.length seen lm.length)) ∧ Aside0 (∀ i, i < lm.length → seen.contains i = true → lm.getD i 0 ≠ i → kindOf rs (lm.getD i 0) ≠ 3) ∧ Aside0 (BoxAt wq w.heap.size x AT cT AR cR AI cI ts.length rs.length is.length) ∧ Aside0 (FnAt wq F w.heap.size) ∧ Aside0 (MapAt wq Bm lm) ∧ Aside0 (Below w.heap.size w wq)) (fun wq => (leftOf (ents lm).toArray (wq.iterSeen R)).size)
                        case atStart => exact ⟨#[], HIi, ⟨fun i _ h => by simp at h⟩, HXi, HFi, HMi, HBi⟩
                        case round =>
                          clear HIi HXi HFi HMi HBi
                          obtain ⟨seen, HI, HS, HX, HF, HM, HB⟩ := hrel
                          rcases iter_next HI.out HM.out HRn.out.1 with ⟨h0, hnx⟩ | ⟨i, w2, hi, hsn, hless, hnx, hen, hg, hI2⟩
                          · have HIN := Aside0.mk (show InnerOk ts rs is from ⟨HT2.out, HI2.out, fun j hj r hr hne => by
                              have hj2 : j < lm.length := by have := HLN.out; omega
                              have h1 := HRL.out.2 j hj2
                              rw [hr] at h1
                              injection h1 with h1
                              have h2 := all_seen (ents lm).toArray seen h0 (ent lm j) (List.mem_map.mpr ⟨j, List.mem_range.mpr hj2, rfl⟩)
                              have h3 := HS.out j hj2 h2
                              rw [h1] at hne ⊢
                              exact h3 hne⟩)
                            clear h0
                            go_wp2_with fail
                            go_ret
                            exact ⟨HB.out, _, rfl, .inr (.inr (.inr ⟨rfl, HOKS.out, HEN.out, HIN.out⟩))⟩
                          · have HX2 := Aside0.mk (HX.out.grown hg (by simpa using HRn.out.2.1.symm))
                            have HF2 := Aside0.mk (HF.out.grown hg (by simpa using HRn.out.2.2.1.symm))
                            have HM2 := Aside0.mk (HM.out.grown hg (by simpa using HRn.out.1.symm))
                            have HB2 := Aside0.mk (HB.out.grown hg HB.out.size (fun j hj => by injection hj with hj; have := HRn.out.2.2.2; omega))
                            have HII := Aside0.mk hI2
                            have HOI := Aside0.mk HI.out
                            have HLE := Aside0.mk hless
                            have HIL := Aside0.mk hi
                            have hrlt : lm.getD i 0 < rs.length := (chase_lt HOKS.out.links (rs.length + 1) i _ (by have := HLN.out; omega) (HRL.out.2 i hi)).1
                            have HRLT := Aside0.mk hrlt
                            obtain ⟨r, hr⟩ : ∃ r, lm.getD i 0 = r := ⟨_, rfl⟩
                            have HR := Aside0.mk hr
                            rw [hr] at hnx hen
                            have hfc := HF2.out.cell
                            clear hg hI2 hless hi hrlt hr hsn HX HF HM HB HI
                            by_cases hne : i = r
                            · have hb1 : ((i : Int) != (r : Int)) = false := by simp [hne]
                              have HS2 := Aside0.mk (show ∀ q, q < lm.length → (seen.push i).contains q = true → lm.getD q 0 ≠ q → kindOf rs (lm.getD q 0) ≠ 3 from fun q hq hc hn => by
                                rw [contains_push] at hc
                                rcases Bool.or_eq_true _ _ ▸ hc with h1 | h1
                                · exact HS.out q hq h1 hn
                                · have := beq_iff_eq.1 h1
                                  subst this
                                  exact absurd (HR.out.trans hne.symm) hn)
                              clear hne
                              go_wp2_with fail
                              go_roundw
                              case rel => exact ⟨seen.push i, HII, HS2, HX2, HF2, HM2, HB2⟩
                              case measure =>
                                have e1 : w2.iterSeen R = seen.push i := by unfold World.iterSeen; rw [HII.out]
                                have e2 : wr.iterSeen R = seen := by unfold World.iterSeen; rw [HOI.out]
                                rw [e1, e2]
                                exact HLE.out
                            · have hb1 : ((i : Int) != (r : Int)) = true := by simp; omega
                              have hcw := HC.out.below HB2.out
                              have HIC := Aside0.mk (internal_calls w.heap.size x AT cT AR cR AI cI ts rs is r w2 HX2.out hcw (by have := HRLT.out; rw [HR.out] at this; exact this))
                              have HNE := Aside0.mk hne
                              clear hcw hne
                              go_wp2_with fail
                              refine HIC.out.mono ?_
                              rintro e wz ⟨rfl, rfl⟩
                              by_cases hk3 : kindOf rs r = 3
                              · have hkb : (kindOf rs r == 3) = true := by simp [hk3]
                                have HNO := Aside0.mk (show ¬ InnerOk ts rs is from fun h => h.r i (by have := HLN.out; have := HIL.out; omega) r (by rw [HRL.out.2 i HIL.out, HR.out]) (fun e => HNE.out e.symm) hk3)
                                rw [hkb]
                                clear hk3 hkb
                                go_wp2_with fail
                                go_ret
                                exact ⟨HB2.out, _, rfl, .inr (.inr (.inl ⟨rfl, HOKS.out, HEN.out, HNO.out⟩))⟩
                              · have hkb : (kindOf rs r == 3) = false := by simp [hk3]
                                have HS2 := Aside0.mk (show ∀ q, q < lm.length → (seen.push i).contains q = true → lm.getD q 0 ≠ q → kindOf rs (lm.getD q 0) ≠ 3 from fun q hq hc hn => by
                                  rw [contains_push] at hc
                                  rcases Bool.or_eq_true _ _ ▸ hc with h1 | h1
                                  · exact HS.out q hq h1 hn
                                  · have := beq_iff_eq.1 h1
                                    subst this
                                    rw [HR.out]
                                    exact hk3)
                                rw [hkb]
                                clear hk3 hkb
                                go_wp2_with fail
                                go_roundw
                                case rel => exact ⟨seen.push i, HII, HS2, HX2, HF2, HM2, HB2⟩
                                case measure =>
                                  have e1 : w2.iterSeen R = seen.push i := by unfold World.iterSeen; rw [HII.out]
                                  have e2 : wr.iterSeen R = seen := by unfold World.iterSeen; rw [HOI.out]
                                  rw [e1, e2]
                                  exact HLE.out
end Go.Proofs.Ytflkbheginhfiaa.XA
/- ceil.Group: the contract. -/
namespace Go.Proofs.Ytflkbheginhfiaa.XA
set_option linter.unusedVariables false
set_option linter.unusedSimpArgs false
open Go.RowKit Go.WideMaps Go.Maps Go.Proofs.YtflkbheginhfiaaW.PrintWords Go.Proofs.YtflkbheginhfiaaW.PrintLast Go.Proofs.YtflkbheginhfiaaW.PrintMore
/-- the resource that one stands for -/
def rootOf (rs : List S73) (i : Nat) : Nat := (chase rs (rs.length + 1) i).getD 0
theorem root_get {rs : List S73} {l : List Nat} (h : Roots rs l) (i : Nat) (hi : i < l.length) : l.getD i 0 = rootOf rs i := by
  unfold rootOf
  rw [h.2 i hi]
  rfl
def groupN (rs : List S73) (r : Nat) (k : Nat) : List Int := ((List.range k).filter fun i => rootOf rs i == rootOf rs r).map fun (i : Nat) => (i : Int)
theorem group_yes (rs : List S73) (r k : Nat) (h : rootOf rs k = rootOf rs r) : groupN rs r (k + 1) = groupN rs r k ++ [(k : Int)] := by
  unfold groupN
  rw [List.range_succ, List.filter_append, List.filter_cons_of_pos (by simp [h]), List.map_append]
  rfl
theorem group_no (rs : List S73) (r k : Nat) (h : rootOf rs k ≠ rootOf rs r) : groupN rs r (k + 1) = groupN rs r k := by
  unfold groupN
  rw [List.range_succ, List.filter_append, List.filter_cons_of_neg (by simp [h]), List.filter_nil, List.append_nil]
theorem group_len (rs : List S73) (r k : Nat) : (groupN rs r k).length ≤ k := by
  unfold groupN
  rw [List.length_map]
  have h := List.length_filter_le (fun i => rootOf rs i == rootOf rs r) (List.range k)
  rw [List.length_range] at h
  exact h
def GroupIs (ts : List S64) (rs : List S73) (is : List S66) (r : Int) (gl : List Int) (er : Int) : Prop :=
  CheckSays ts rs is er ∧ er ≠ 0 ∧ gl = [] ∨ CheckSays ts rs is 0 ∧ (r < 0 ∨ (rs.length : Int) ≤ r) ∧ gl = [] ∧ er = 2 ∨ CheckSays ts rs is 0 ∧ ∃ q : Nat, r = q ∧ q < rs.length ∧ gl = groupN rs q rs.length ∧ er = 0
theorem says_zero {ts : List S64} {rs : List S73} {is : List S66} (h : CheckSays ts rs is 0) : RefsOk ts rs is ∧ Ends rs ∧ InnerOk ts rs is := by
  unfold CheckSays at h
  rcases h with ⟨h, _⟩ | ⟨h, _⟩ | ⟨h, _⟩ | ⟨_, h⟩
  · omega
  · omega
  · omega
  · exact h
theorem root_lt {rs : List S73} (hl : LinksOk rs) (he : Ends rs) (i : Nat) (hi : i < rs.length) : rootOf rs i < rs.length := by
  unfold rootOf
  rcases h : chase rs (rs.length + 1) i with _ | b
  · exact absurd h (he i hi)
  · exact (chase_lt hl _ i b hi h).1
set_option maxRecDepth 1000000 in
set_option maxHeartbeats 4000000 in
theorem group_calls (x : CV) (AT : Option Addr) (cT : Nat) (AR : Option Addr) (cR : Nat) (AI : Option Addr) (cI : Nat) (ts : List S64) (rs : List S73) (is : List S66) (r : Int) (w : World) (hC : Cfg w AT cT AR cR AI cI ts rs is) (hsz : rs.length ≤ 4398046511104) (ht : ts.length ≤ 4398046511104) (hi : is.length ≤ 4398046511104) :
    Calls Try.prog 18 #[.agg #[.string x.s0, .string x.s1, .bool x.b2, .bool x.b3, .bool x.b4, .bool x.b5, .bool x.b6, .bool x.b7, .bool x.b8, .bool x.b9, .slice x.A10 x.n10 x.c10, .slice AT ts.length cT, .slice AR rs.length cR, .slice x.A13 x.n13 x.c13, .slice x.A14 x.n14 x.c14, .slice x.A15 x.n15 x.c15, .slice AI is.length cI, .slice x.A17 x.n17 x.c17], .int .i64 r] w fun e w' => Below w.heap.size w w' ∧ ∃ vs gl er, e = .returned (.tuple #[vs, .int .i64 er]) ∧ (Kd.int .i64).R 3 w' w.heap.size (fun _ => True) vs gl ∧ GroupIs ts rs is r gl er := by
  have HC := Aside0.mk hC
  clear hC
  have HBX := Aside0.mk (BoxAt.made w x AT cT AR cR AI cI ts.length rs.length is.length)
  have HB0 := Aside0.mk (show Below w.heap.size w (w.alloc (.cells #[.string x.s0, .string x.s1, .bool x.b2, .bool x.b3, .bool x.b4, .bool x.b5, .bool x.b6, .bool x.b7, .bool x.b8, .bool x.b9, .slice x.A10 x.n10 x.c10, .slice AT ts.length cT, .slice AR rs.length cR, .slice x.A13 x.n13 x.c13, .slice x.A14 x.n14 x.c14, .slice x.A15 x.n15 x.c15, .slice AI is.length cI, .slice x.A17 x.n17 x.c17] 36)) from (Below.refl _ _).alloc (Nat.le_refl _) _)
  have HCK := Aside0.mk (check_calls x AT cT AR cR AI cI ts rs is _ (HC.out.below HB0.out) hsz ht hi)
  unfold CV.arr at HBX
  go_enter Try.func18, Try.ntmps18
  go_wp2_with (first | ((with_reducible refine gate_dst (N := 11) rfl ?_); refine load36 HBX.out rfl (.tmp 2) rfl rfl ?_))
  generalize w.alloc (.cells #[.string x.s0, .string x.s1, .bool x.b2, .bool x.b3, .bool x.b4, .bool x.b5, .bool x.b6, .bool x.b7, .bool x.b8, .bool x.b9, .slice x.A10 x.n10 x.c10, .slice AT ts.length cT, .slice AR rs.length cR, .slice x.A13 x.n13 x.c13, .slice x.A14 x.n14 x.c14, .slice x.A15 x.n15 x.c15, .slice AI is.length cI, .slice x.A17 x.n17 x.c17] 36) = w0 at *
  have HBX : Aside0 (BoxAt w0 w.heap.size x AT cT AR cR AI cI ts.length rs.length is.length) := HBX
  refine HCK.out.mono ?_
  rintro e w1 ⟨B1, v, rfl, hsay⟩
  have HX := Aside0.mk (HBX.out.below B1)
  have HB := Aside0.mk (HB0.out.trans (B1.mono HB0.out.size))
  have HS := Aside0.mk hsay
  clear B1 hsay HBX HB0 HCK
  by_cases hv : v = 0
  · subst hv
    have HZ := Aside0.mk (says_zero HS.out)
    have q12 := HX.out.res
    by_cases c1 : r < 0
    · have c1b : decide (r < 0) = true := decide_eq_true c1
      go_wp2_with fail
      go_ret2
      exact ⟨HB.out, _, [], 2, rfl, Kd.R_nil _ _ _ _ _, .inr (.inl ⟨HS.out, .inl c1, rfl, rfl⟩)⟩
    · have c1b : decide (r < 0) = false := decide_eq_false c1
      by_cases c2 : (rs.length : Int) ≤ r
      · have c2b : decide ((rs.length : Int) ≤ r) = true := decide_eq_true c2
        go_wp2_with fail
        go_ret2
        exact ⟨HB.out, _, [], 2, rfl, Kd.R_nil _ _ _ _ _, .inr (.inl ⟨HS.out, .inr c2, rfl, rfl⟩)⟩
      · have c2b : decide ((rs.length : Int) ≤ r) = false := decide_eq_false c2
        obtain ⟨q, rfl⟩ := Int.eq_ofNat_of_zero_le (by omega : 0 ≤ r)
        have HQ := Aside0.mk (show q < rs.length by omega)
        have hcw := HC.out.below HB.out
        have HRT := Aside0.mk (roots_calls x AT cT AR cR AI cI ts rs is w1 hcw HZ.out.1.links hsz)
        clear hcw
        go_wp2_with (first | ((with_reducible refine gate_dst (N := 26) rfl ?_); refine load36 HX.out rfl (.tmp 2) rfl rfl ?_))
        refine HRT.out.mono ?_
        rintro e wa ⟨B2, h⟩
        rcases h with ⟨rfl, i0, hi0, hnone⟩ | ⟨Bm, lm, rfl, hm, hr, hlen, hge⟩
        · exact absurd hnone (HZ.out.2.1 i0 hi0)
        · have HXa := Aside0.mk (HX.out.below B2)
          have HBa := Aside0.mk (HB.out.trans (B2.mono HB.out.size))
          have HMa := Aside0.mk hm
          have HRL := Aside0.mk hr
          have HLN := Aside0.mk hlen
          have hgq := map_get HMa.out q (by have := HQ.out; omega)
          rw [root_get hr q (by have := HQ.out; omega)] at hgq
          have q12 := HXa.out.res
          clear B2 hm hr hlen hge HX HB HRT hgq
          go_wp2_with fail
          clear q12
          go_loopw [9, 33] (fun u i wq => ∃ k : Nat, k ≤ rs.length ∧ i = .int .i64 k ∧ Aside0 ((Kd.int .i64).R 3 wq w.heap.size (fun g => g ≠ Bm) u (groupN rs q k)) ∧ Aside0 (MapAt wq Bm lm) ∧ Aside0 (Below w.heap.size w wq)) (fun _ i _ => rs.length - (intOf i).toNat)
          case atStart => exact ⟨0, by omega, rfl, ⟨Kd.R_nil _ _ _ _ _⟩, HMa, HBa⟩
          case round =>
            clear HXa HBa HMa
            obtain ⟨k, hk, rfl, HR, HM, HB⟩ := hrel
            by_cases hlt : k < rs.length
            · have hd : decide ((k : Int) < (rs.length : Int)) = true := decide_eq_true (by omega)
              have HLT := Aside0.mk (Nat.succ_le_of_lt hlt)
              have hgk := map_get HM.out k (by have := HLN.out; omega)
              have hgq := map_get HM.out q (by have := HLN.out; have := HQ.out; omega)
              rw [root_get HRL.out k (by have := HLN.out; omega)] at hgk
              rw [root_get HRL.out q (by have := HLN.out; have := HQ.out; omega)] at hgq
              by_cases hc : rootOf rs k = rootOf rs q
              · have hcb : ((rootOf rs k : Int) == (rootOf rs q : Int)) = true := by rw [hc]; simp
                have HG := Aside0.mk (group_yes rs q k hc)
                have HGL := Aside0.mk (group_len rs q k)
                clear hc
                go_wp2_with ((with_reducible refine gate_builtin (b := .append) (xs := #[.tmp 43, .tmp 45]) rfl ?_); at_builtin; refine Kd.R_append (Kd.int .i64) (w0 := w) w.heap.size rfl (.tmp 43) (.tmp 45) 39 3 (.int .i64 0) 8 rfl Try.underlying39 info3 rfl (by decide) (by omega) _ (groupN rs q k) (k : Int) [.int .i64 (k : Int)] (fun g => g ≠ Bm) (fun _ => False) rfl rfl rfl (fun _ h => h.elim) (fun g hg e => by have := map_lt HM.out; omega) HR.out HB.out HB.out.size ?hl ?_; (case hl => have := HGL.out; omega); intro v3 w3 HR3 HB3 HG3 HA3; have HM3 := HM.out.grown HG3 (fun e => HR.out.1 Bm e.symm rfl); rw [← HG.out] at HR3; have HRc := Aside0.mk HR3; have HBc := Aside0.mk HB3; have HMc := Aside0.mk HM3; clear HR3 HB3 HG3 HA3 HM3)
                go_roundw
                case rel => exact ⟨k + 1, HLT.out, by go_num, HRc, HMc, HBc⟩
                case measure => have := HLT.out; simp [intOf]; omega
              · have hcb : ((rootOf rs k : Int) == (rootOf rs q : Int)) = false := by simp; omega
                have HG := Aside0.mk (group_no rs q k hc)
                clear hc
                go_wp2_with fail
                go_roundw
                case rel => exact ⟨k + 1, HLT.out, by go_num, ⟨by rw [HG.out]; exact HR.out⟩, HM, HB⟩
                case measure => have := HLT.out; simp [intOf]; omega
            · have hd : decide ((k : Int) < (rs.length : Int)) = false := decide_eq_false (by omega)
              have HE := Aside0.mk (show k = rs.length by omega)
              go_wp2_with fail
              go_ret2
              exact ⟨HB.out, _, _, 0, rfl, Kd.R_mono HR.out (fun _ _ => trivial), .inr (.inr ⟨HS.out, q, rfl, HQ.out, by rw [HE.out], rfl⟩)⟩
  · have hvb : (v != 0) = true := by simp [hv]
    have HV := Aside0.mk hv
    clear hv
    go_wp2_with fail
    go_ret2
    exact ⟨HB.out, _, [], v, rfl, Kd.R_nil _ _ _ _ _, .inl ⟨HS.out, HV.out, rfl⟩⟩
end Go.Proofs.Ytflkbheginhfiaa.XA
/- ceil.users' closure: does a list name a resource of the group? and Reckon's: the greatest priority. -/
namespace Go.Proofs.Ytflkbheginhfiaa.XA
set_option linter.unusedVariables false
set_option linter.unusedSimpArgs false
open Go.RowKit Go.WideMaps Go.Maps Go.Proofs.YtflkbheginhfiaaW.PrintWords Go.Proofs.YtflkbheginhfiaaW.PrintLast Go.Proofs.YtflkbheginhfiaaW.PrintMore
def usesF (rs : List S73) (q : Nat) (l : List Int) : Bool := l.any fun r => rootOf rs r.toNat == rootOf rs q
/-- the map and the resource, each in a box -/
structure TwoAt (w : World) (B Bm q : Nat) : Prop where
  m : w.heap[B]? = some (.cells #[.map (some Bm)] 75 (0, 0))
  r : w.heap[B + 1]? = some (.cells #[.int .i64 (q : Int)] 3 (0, 0))
theorem TwoAt.cells {w : World} {B Bm q : Nat} (h : TwoAt w B Bm q) : w.cell? ⟨B, 0, none⟩ = some (.map (some Bm)) ∧ w.cell? ⟨B + 1, 0, none⟩ = some (.int .i64 (q : Int)) := by
  have h1 := h.m
  have h2 := h.r
  exact ⟨by simp [World.cell?, h1], by simp [World.cell?, h2]⟩
theorem TwoAt.keep {w w1 : World} {B Bm q : Nat} (h : TwoAt w B Bm q) (hk : w1.heap[B]? = w.heap[B]?) (hk2 : w1.heap[B + 1]? = w.heap[B + 1]?) : TwoAt w1 B Bm q := ⟨hk.trans h.m, hk2.trans h.r⟩
theorem TwoAt.below {w w1 : World} {B Bm q : Nat} (h : TwoAt w B Bm q) (hB : Below w.heap.size w w1) : TwoAt w1 B Bm q := h.keep (hB.block _ (blk_lt h.m)) (hB.block _ (blk_lt h.r))
set_option maxRecDepth 1000000 in
set_option maxHeartbeats 1000000 in
theorem uses_calls (B Bm q : Nat) (rs : List S73) (lm : List Nat) (A : Option Addr) (c : Nat) (l : List Int) (w : World) (h2 : TwoAt w B Bm q) (hm : MapAt w Bm lm) (hr : Roots rs lm) (hn : lm.length = rs.length) (hq : q < rs.length)
    (hl : (Kd.int .i64).C w A l.length l) (hc : l.length ≤ c) (hrg : ∀ r ∈ l, 0 ≤ r ∧ r < rs.length) :
    Calls Try.prog 41 #[.slice A l.length c, .pointer (some ⟨B, 0, none⟩), .pointer (some ⟨B + 1, 0, none⟩)] w fun e w' => e = .returned (.bool (usesF rs q l)) ∧ w = w' := by
  have HL := Aside0.mk hl
  have HRG := Aside0.mk hrg
  have HM := Aside0.mk hm
  have HRT := Aside0.mk hr
  have HN := Aside0.mk hn
  have hlen := hl.2.1
  obtain ⟨y0, y1⟩ := h2.cells
  have hgq := map_get hm q (by omega)
  rw [root_get hr q (by omega)] at hgq
  clear hl hrg hm hr hn h2
  obtain ⟨B1, hB1⟩ : ∃ B1, B + 1 = B1 := ⟨_, rfl⟩
  rw [hB1] at y1 ⊢
  clear hB1
  go_enter Try.func41, Try.ntmps41
  go_wp2_with fail
  go_loop [9] (fun i => ∃ k : Nat, k ≤ l.length ∧ i = .int .i64 k ∧ Aside0 (∀ j, j < k → rootOf rs (l.getD j 0).toNat ≠ rootOf rs q)) (fun i => l.length - (intOf i).toNat)
  case atStart => exact ⟨0, by omega, rfl, ⟨fun j hj => by omega⟩⟩
  case round =>
    obtain ⟨k, hk, rfl, HP⟩ := hrel
    by_cases hlt : k < l.length
    · have hd : decide ((k : Int) < (l.length : Int)) = true := decide_eq_true (by omega)
      have HLT := Aside0.mk (Nat.succ_le_of_lt hlt)
      obtain ⟨ad, rfl, hc0⟩ := (Kd.reads_of_C (d := (0 : Int)) HL.out).2.2 (by omega)
      have hx := hc0 k hlt
      have hmem : l.getD k 0 ∈ l := by rw [List.getD_eq_getElem?_getD, List.getElem?_eq_getElem hlt]; exact List.getElem_mem hlt
      obtain ⟨h0, h1⟩ := HRG.out _ hmem
      obtain ⟨r, hr0⟩ := Int.eq_ofNat_of_zero_le h0
      have HR0 := Aside0.mk hr0
      have HME := Aside0.mk hmem
      rw [hr0] at hx h1
      have hgr := map_get HM.out r (by have := HN.out; omega)
      rw [root_get HRT.out r (by have := HN.out; omega)] at hgr
      clear hc0 hmem h0 h1 hr0
      by_cases hcc : rootOf rs r = rootOf rs q
      · have hcb : ((rootOf rs r : Int) == (rootOf rs q : Int)) = true := by rw [hcc]; simp
        have HY := Aside0.mk (show usesF rs q l = true from List.any_eq_true.mpr ⟨_, HME.out, by rw [HR0.out]; simpa using hcc⟩)
        clear hcc
        go_wp2_with fail
        go_ret
        exact ⟨by rw [HY.out]; rfl, rfl⟩
      · have hcb : ((rootOf rs r : Int) == (rootOf rs q : Int)) = false := by simp; omega
        have HP2 := Aside0.mk (show ∀ j, j < k + 1 → rootOf rs (l.getD j 0).toNat ≠ rootOf rs q from fun j hj => by
          rcases Nat.lt_or_ge j k with h | h
          · exact HP.out j h
          · obtain rfl : j = k := by omega
            rw [HR0.out]
            exact hcc)
        clear hcc
        go_wp2_with fail
        go_round
        case rel => exact ⟨k + 1, HLT.out, by go_num, HP2⟩
        case measure => have := HLT.out; simp [intOf]; omega
    · have hd : decide ((k : Int) < (l.length : Int)) = false := decide_eq_false (by omega)
      have HY := Aside0.mk (show usesF rs q l = false by
        unfold usesF
        rw [List.any_eq_false]
        intro r hr
        obtain ⟨j, hj, rfl⟩ := List.getElem_of_mem hr
        have := HP.out j (by omega)
        rw [List.getD_eq_getElem?_getD, List.getElem?_eq_getElem hj] at this
        simpa using this)
      go_wp2_with fail
      go_ret
      exact ⟨by rw [HY.out]; rfl, rfl⟩
/-- 'top, any' of Reckon: two cells -/
def TopAt (w : World) (B : Nat) (top : Int) (any : Bool) : Prop := w.heap[B]? = some (.cells #[.int .i64 top] 3 (0, 0)) ∧ w.heap[B + 1]? = some (.cells #[.bool any] 4 (0, 0))
def topF (s : Int × Bool) (p : Int) : Int × Bool := (if s.2 then max s.1 p else p, true)
theorem top_set {w : World} {B : Nat} {top : Int} {any : Bool} (h : TopAt w B top any) (v : Int) : TopAt (w.setCell ⟨B, 0, none⟩ (.int .i64 v)) B v any := by
  refine ⟨?_, ?_⟩
  · simp [World.setCell, Array.getElem?_modify, h.1]
  · rw [Below.heap_setCell w ⟨B, 0, none⟩ _ (B + 1) (by simp)]
    exact h.2
theorem any_set {w : World} {B : Nat} {top : Int} {any : Bool} (h : TopAt w B top any) (v : Bool) : TopAt (w.setCell ⟨B + 1, 0, none⟩ (.bool v)) B top v := by
  refine ⟨?_, ?_⟩
  · rw [Below.heap_setCell w ⟨B + 1, 0, none⟩ _ B (by simp)]
    exact h.1
  · simp [World.setCell, Array.getElem?_modify, h.2]
/-- what the call leaves, but for the two cells -/
structure TopStep (w w' : World) (B : Nat) : Prop where
  os : w'.os = w.os
  tape : w'.tape = w.tape
  output : w'.output = w.output
  size : w'.heap.size = w.heap.size
  block : ∀ k, k ≠ B → k ≠ B + 1 → w'.heap[k]? = w.heap[k]?
theorem TopStep.refl (w : World) (B : Nat) : TopStep w w B := ⟨rfl, rfl, rfl, rfl, fun _ _ _ => rfl⟩
theorem TopStep.top {w w' : World} {B : Nat} (h : TopStep w w' B) (v : Value) : TopStep w (w'.setCell ⟨B, 0, none⟩ v) B := ⟨h.os, h.tape, h.output, by simpa [World.setCell] using h.size, fun k h1 h2 => (Below.heap_setCell w' ⟨B, 0, none⟩ v k h1).trans (h.block k h1 h2)⟩
theorem TopStep.any {w w' : World} {B : Nat} (h : TopStep w w' B) (v : Value) : TopStep w (w'.setCell ⟨B + 1, 0, none⟩ v) B := ⟨h.os, h.tape, h.output, by simpa [World.setCell] using h.size, fun k h1 h2 => (Below.heap_setCell w' ⟨B + 1, 0, none⟩ v k h2).trans (h.block k h1 h2)⟩
set_option maxRecDepth 1000000 in
set_option maxHeartbeats 1000000 in
theorem reckon1_calls (B : Nat) (b : Bool) (i p : Int) (top : Int) (any : Bool) (w : World) (h : TopAt w B top any) :
    Calls Try.prog 32 #[.bool b, .int .i64 i, .int .i64 p, .pointer (some ⟨B + 1, 0, none⟩), .pointer (some ⟨B, 0, none⟩)] w fun e w' => (∃ v, e = .returned v) ∧ TopAt w' B (topF (top, any) p).1 (topF (top, any) p).2 ∧ TopStep w w' B := by
  have H := Aside0.mk h
  have x0 : w.cell? ⟨B, 0, none⟩ = some (.int .i64 top) := by simp [World.cell?, h.1]
  have x1 : w.cell? ⟨B + 1, 0, none⟩ = some (.bool any) := by simp [World.cell?, h.2]
  have f0 : w.frozen? ⟨B, 0, none⟩ = false := by simp [World.frozen?, h.1]
  have f1 : w.frozen? ⟨B + 1, 0, none⟩ = false := by simp [World.frozen?, h.2]
  clear h
  cases any with
  | true =>
    by_cases hp : p ≤ top
    · have HF := Aside0.mk (show (topF (top, true) p).1 = top by unfold topF; simp; omega)
      go_enter Try.func32, Try.ntmps32
      go_wp2_with fail
      all_goals try omega
      all_goals
        go_end0
        exact ⟨⟨_, rfl⟩, by rw [HF.out]; exact top_set H.out top, (TopStep.refl w B).top _⟩
    · have HF := Aside0.mk (show (topF (top, true) p).1 = p by unfold topF; simp; omega)
      go_enter Try.func32, Try.ntmps32
      go_wp2_with fail
      all_goals try omega
      all_goals
        go_end0
        exact ⟨⟨_, rfl⟩, by rw [HF.out]; exact top_set H.out p, (TopStep.refl w B).top _⟩
  | false =>
    go_enter Try.func32, Try.ntmps32
    go_wp2_with fail
    all_goals
      go_end0
      exact ⟨⟨_, rfl⟩, top_set (any_set (top_set H.out p) true) p, (((TopStep.refl w B).top _).any _).top _⟩
end Go.Proofs.Ytflkbheginhfiaa.XA
/- ceil.users: each user of a resource's group is handed to a function. -/
namespace Go.Proofs.Ytflkbheginhfiaa.XA
set_option linter.unusedVariables false
set_option linter.unusedSimpArgs false
open Go.RowKit Go.WideMaps Go.Maps Go.Proofs.YtflkbheginhfiaaW.PrintWords Go.Proofs.YtflkbheginhfiaaW.PrintLast Go.Proofs.YtflkbheginhfiaaW.PrintMore
/-- a step that keeps the blocks K -/
structure KStep (K : Nat → Prop) (w w' : World) : Prop where
  os : w'.os = w.os
  tape : w'.tape = w.tape
  output : w'.output = w.output
  size : w.heap.size ≤ w'.heap.size
  block : ∀ k, K k → k < w.heap.size → w'.heap[k]? = w.heap[k]?
theorem KStep.refl (K : Nat → Prop) (w : World) : KStep K w w := ⟨rfl, rfl, rfl, Nat.le_refl _, fun _ _ _ => rfl⟩
theorem KStep.trans {K : Nat → Prop} {w w1 w2 : World} (h : KStep K w w1) (h2 : KStep K w1 w2) : KStep K w w2 :=
  ⟨h2.os.trans h.os, h2.tape.trans h.tape, h2.output.trans h.output, Nat.le_trans h.size h2.size, fun k hk hl => (h2.block k hk (Nat.lt_of_lt_of_le hl h.size)).trans (h.block k hk hl)⟩
theorem KStep.of_below {K : Nat → Prop} {w w1 : World} (h : Below w.heap.size w w1) : KStep K w w1 := ⟨h.os, h.tape, h.output, h.size, fun k _ hl => h.block k hl⟩
theorem KStep.mono {K K' : Nat → Prop} {w w1 : World} (h : KStep K w w1) (hk : ∀ k, K' k → K k) : KStep K' w w1 := ⟨h.os, h.tape, h.output, h.size, fun k hk' hl => h.block k (hk k hk') hl⟩
theorem KStep.below {K : Nat → Prop} {w w1 : World} {B : Nat} (h : KStep K w w1) (hk : ∀ k, k < B → K k) (hB : B ≤ w.heap.size) : Below B w w1 := ⟨h.os, h.tape, h.output, h.size, fun k hl => h.block k (hk k hl) (Nat.lt_of_lt_of_le hl hB)⟩
/-- a function that is handed users: what has been handed is told by inv, which leaves the blocks K alone -/
structure DoFn (fid : Nat) (p1 p2 : Addr) (inv : (Nat → Prop) → List (Bool × Nat × Int) → World → Prop) : Prop where
  keep : ∀ (K K' : Nat → Prop) L w w', inv K L w → Below w.heap.size w w' → (∀ k, K' k → K k ∨ w.heap.size ≤ k ∧ k < w'.heap.size) → inv K' L w'
  call : ∀ (K : Nat → Prop) L w b (i : Nat) p, inv K L w → L.length < 8796093022208 → Calls Try.prog fid #[.bool b, .int .i64 (i : Int), .int .i64 p, .pointer (some p1), .pointer (some p2)] w fun e w' => (∃ v, e = .returned v) ∧ inv K (L ++ [(b, i, p)]) w' ∧ KStep K w w'
def taskUsers (rs : List S73) (ts : List S64) (q k : Nat) : List (Bool × Nat × Int) := (List.range k).filterMap fun j => if usesF rs q (ts.getD j z64).f5 then some (false, j, (ts.getD j z64).f1) else none
def isrUsers (rs : List S73) (is : List S66) (q k : Nat) : List (Bool × Nat × Int) := (List.range k).filterMap fun j => if usesF rs q (is.getD j z66).f3 then some (true, j, (is.getD j z66).f2) else none
theorem task_step (rs : List S73) (ts : List S64) (q k : Nat) : taskUsers rs ts q (k + 1) = taskUsers rs ts q k ++ (if usesF rs q (ts.getD k z64).f5 then [(false, k, (ts.getD k z64).f1)] else []) := by
  unfold taskUsers
  rw [List.range_succ, List.filterMap_append]
  congr 1
  by_cases h : usesF rs q (ts.getD k z64).f5 = true
  · simp only [List.filterMap_cons, List.filterMap_nil, if_pos h]
  · simp only [List.filterMap_cons, List.filterMap_nil, if_neg h]
theorem isr_step (rs : List S73) (is : List S66) (q k : Nat) : isrUsers rs is q (k + 1) = isrUsers rs is q k ++ (if usesF rs q (is.getD k z66).f3 then [(true, k, (is.getD k z66).f2)] else []) := by
  unfold isrUsers
  rw [List.range_succ, List.filterMap_append]
  congr 1
  by_cases h : usesF rs q (is.getD k z66).f3 = true
  · simp only [List.filterMap_cons, List.filterMap_nil, if_pos h]
  · simp only [List.filterMap_cons, List.filterMap_nil, if_neg h]
theorem task_len (rs : List S73) (ts : List S64) (q k : Nat) : (taskUsers rs ts q k).length ≤ k := by
  unfold taskUsers
  refine Nat.le_trans (List.length_filterMap_le _ _) ?_
  rw [List.length_range]
  exact Nat.le_refl _
theorem isr_len (rs : List S73) (is : List S66) (q k : Nat) : (isrUsers rs is q k).length ≤ k := by
  unfold isrUsers
  refine Nat.le_trans (List.length_filterMap_le _ _) ?_
  rw [List.length_range]
  exact Nat.le_refl _
/-- what a place in users is -/
structure UsersAt (x : CV) (AT : Option Addr) (cT : Nat) (AR : Option Addr) (cR : Nat) (AI : Option Addr) (cI : Nat) (ts : List S64) (rs : List S73) (is : List S66) (Bm q : Nat) (lm : List Nat) (K : Nat → Prop) (inv : (Nat → Prop) → List (Bool × Nat × Int) → World → Prop) (w0 w : World) (L : List (Bool × Nat × Int)) : Prop where
  box : BoxAt w w0.heap.size x AT cT AR cR AI cI ts.length rs.length is.length
  two : TwoAt w (w0.heap.size + 1) Bm q
  map : MapAt w Bm lm
  cfg : Cfg w AT cT AR cR AI cI ts rs is
  inv_ : inv (fun k => K k ∨ k = w0.heap.size ∨ k = w0.heap.size + 1 ∨ k = w0.heap.size + 2) L w
  step : KStep K w0 w
theorem UsersAt.below {x : CV} {AT : Option Addr} {cT : Nat} {AR : Option Addr} {cR : Nat} {AI : Option Addr} {cI : Nat} {ts : List S64} {rs : List S73} {is : List S66} {Bm q : Nat} {lm : List Nat} {K : Nat → Prop} {inv : (Nat → Prop) → List (Bool × Nat × Int) → World → Prop} {w0 w w1 : World} {L : List (Bool × Nat × Int)} {fid : Nat} {p1 p2 : Addr} (hd : DoFn fid p1 p2 inv)
    (h : UsersAt x AT cT AR cR AI cI ts rs is Bm q lm K inv w0 w L) (hB : Below w.heap.size w w1) : UsersAt x AT cT AR cR AI cI ts rs is Bm q lm K inv w0 w1 L :=
  ⟨h.box.below hB, h.two.below hB, h.map.below hB, h.cfg.below hB, hd.keep _ _ _ _ _ h.inv_ hB (fun _ hk => .inl hk), h.step.trans (KStep.of_below hB)⟩
theorem UsersAt.done {x : CV} {AT : Option Addr} {cT : Nat} {AR : Option Addr} {cR : Nat} {AI : Option Addr} {cI : Nat} {ts : List S64} {rs : List S73} {is : List S66} {Bm q : Nat} {lm : List Nat} {K : Nat → Prop} {inv : (Nat → Prop) → List (Bool × Nat × Int) → World → Prop} {w0 w w1 : World} {L L' : List (Bool × Nat × Int)} {wc : World}
    (h : UsersAt x AT cT AR cR AI cI ts rs is Bm q lm K inv w0 w L) (hc : Cfg wc AT cT AR cR AI cI ts rs is) (hwc : Below wc.heap.size wc w0) (hK : ∀ k, k < wc.heap.size → K k) (hKm : K Bm) (hi : inv (fun k => K k ∨ k = w0.heap.size ∨ k = w0.heap.size + 1 ∨ k = w0.heap.size + 2) L' w1) (hs : KStep (fun k => K k ∨ k = w0.heap.size ∨ k = w0.heap.size + 1 ∨ k = w0.heap.size + 2) w w1) : UsersAt x AT cT AR cR AI cI ts rs is Bm q lm K inv w0 w1 L' := by
  have hk : KStep K w0 w1 := h.step.trans (hs.mono fun _ h => .inl h)
  refine ⟨(hs.block _ (.inr (.inl rfl)) h.box.lt).trans h.box, h.two.keep (hs.block _ (.inr (.inr (.inl rfl))) (blk_lt h.two.m)) (hs.block _ (.inr (.inr (.inr rfl))) (blk_lt h.two.r)), ⟨(hs.block Bm (.inl hKm) (map_lt h.map)).trans h.map.1, h.map.2⟩, hc.below (hwc.trans (hk.below hK hwc.size)), hi, hk⟩
end Go.Proofs.Ytflkbheginhfiaa.XA
/- ceil.users, the function being number 32. -/
namespace Go.Proofs.Ytflkbheginhfiaa.XA
set_option linter.unusedVariables false
set_option linter.unusedSimpArgs false
open Go.RowKit Go.WideMaps Go.Maps Go.Proofs.YtflkbheginhfiaaW.PrintWords Go.Proofs.YtflkbheginhfiaaW.PrintLast Go.Proofs.YtflkbheginhfiaaW.PrintMore
set_option maxRecDepth 1000000 in
set_option maxHeartbeats 4000000 in
theorem users32_calls (x : CV) (AT : Option Addr) (cT : Nat) (AR : Option Addr) (cR : Nat) (AI : Option Addr) (cI : Nat) (ts : List S64) (rs : List S73) (is : List S66) (Bm q : Nat) (lm : List Nat) (p1 p2 : Addr) (inv : (Nat → Prop) → List (Bool × Nat × Int) → World → Prop) (hdo : DoFn 32 p1 p2 inv) (K : Nat → Prop) (w wc : World)
    (hC : Cfg wc AT cT AR cR AI cI ts rs is) (hwc : Below wc.heap.size wc w) (hK : ∀ k, k < wc.heap.size → K k) (hKm : K Bm) (hm : MapAt w Bm lm) (hr : Roots rs lm) (hn : lm.length = rs.length) (hq : q < rs.length) (hok : RefsOk ts rs is) (ht : ts.length ≤ 4398046511104) (hi : is.length ≤ 4398046511104) (hinv : inv K [] w) :
    Calls Try.prog 31 #[.agg #[.string x.s0, .string x.s1, .bool x.b2, .bool x.b3, .bool x.b4, .bool x.b5, .bool x.b6, .bool x.b7, .bool x.b8, .bool x.b9, .slice x.A10 x.n10 x.c10, .slice AT ts.length cT, .slice AR rs.length cR, .slice x.A13 x.n13 x.c13, .slice x.A14 x.n14 x.c14, .slice x.A15 x.n15 x.c15, .slice AI is.length cI, .slice x.A17 x.n17 x.c17], .map (some Bm), .int .i64 (q : Int), .func (.func 32) #[] #[.pointer (some p1), .pointer (some p2)]] w fun e w' => (∃ v, e = .returned v) ∧ inv K (taskUsers rs ts q ts.length ++ isrUsers rs is q is.length) w' ∧ KStep K w w' := by
  have HD := Aside0.mk hdo
  have HC := Aside0.mk hC
  have HWC := Aside0.mk hwc
  have HK := Aside0.mk hK
  have HKM := Aside0.mk hKm
  have HRT := Aside0.mk hr
  have HN := Aside0.mk hn
  have HOK := Aside0.mk hok
  have HQ := Aside0.mk hq
  have hb : Below w.heap.size w (((w.alloc (.cells #[.string x.s0, .string x.s1, .bool x.b2, .bool x.b3, .bool x.b4, .bool x.b5, .bool x.b6, .bool x.b7, .bool x.b8, .bool x.b9, .slice x.A10 x.n10 x.c10, .slice AT ts.length cT, .slice AR rs.length cR, .slice x.A13 x.n13 x.c13, .slice x.A14 x.n14 x.c14, .slice x.A15 x.n15 x.c15, .slice AI is.length cI, .slice x.A17 x.n17 x.c17] 36)).alloc (.cells #[.map (some Bm)] 75)).alloc (.cells #[.int .i64 (q : Int)] 3)) := (((Below.refl _ _).alloc (Nat.le_refl _) _).alloc (by simp) _).alloc (by simp; omega) _
  have HU := Aside0.mk (show UsersAt x AT cT AR cR AI cI ts rs is Bm q lm K inv w (((w.alloc (.cells #[.string x.s0, .string x.s1, .bool x.b2, .bool x.b3, .bool x.b4, .bool x.b5, .bool x.b6, .bool x.b7, .bool x.b8, .bool x.b9, .slice x.A10 x.n10 x.c10, .slice AT ts.length cT, .slice AR rs.length cR, .slice x.A13 x.n13 x.c13, .slice x.A14 x.n14 x.c14, .slice x.A15 x.n15 x.c15, .slice AI is.length cI, .slice x.A17 x.n17 x.c17] 36)).alloc (.cells #[.map (some Bm)] 75)).alloc (.cells #[.int .i64 (q : Int)] 3)) [] from
    ⟨(BoxAt.made w x AT cT AR cR AI cI ts.length rs.length is.length).below (((Below.refl _ _).alloc (Nat.le_refl _) _).alloc (by simp) _), ⟨by
        have h1 := heap_alloc_new (w.alloc (.cells #[.string x.s0, .string x.s1, .bool x.b2, .bool x.b3, .bool x.b4, .bool x.b5, .bool x.b6, .bool x.b7, .bool x.b8, .bool x.b9, .slice x.A10 x.n10 x.c10, .slice AT ts.length cT, .slice AR rs.length cR, .slice x.A13 x.n13 x.c13, .slice x.A14 x.n14 x.c14, .slice x.A15 x.n15 x.c15, .slice AI is.length cI, .slice x.A17 x.n17 x.c17] 36)) (.cells #[.map (some Bm)] 75)
        rw [World.size_alloc] at h1
        rw [heap_alloc_old _ _ (by simp)]
        exact h1, by
        have h1 := heap_alloc_new ((w.alloc (.cells #[.string x.s0, .string x.s1, .bool x.b2, .bool x.b3, .bool x.b4, .bool x.b5, .bool x.b6, .bool x.b7, .bool x.b8, .bool x.b9, .slice x.A10 x.n10 x.c10, .slice AT ts.length cT, .slice AR rs.length cR, .slice x.A13 x.n13 x.c13, .slice x.A14 x.n14 x.c14, .slice x.A15 x.n15 x.c15, .slice AI is.length cI, .slice x.A17 x.n17 x.c17] 36)).alloc (.cells #[.map (some Bm)] 75)) (.cells #[.int .i64 (q : Int)] 3)
        rw [World.size_alloc, World.size_alloc] at h1
        exact h1⟩, hm.below hb, hC.below (hwc.trans (hb.mono hwc.size)), hdo.keep K _ _ _ _ hinv hb (fun k hk => by rcases hk with h | h | h | h <;> first | exact .inl h | exact .inr ⟨by omega, by rw [World.size_alloc, World.size_alloc, World.size_alloc]; omega⟩), KStep.of_below hb⟩)
  clear hdo hC hwc hK hKm hr hn hok hq hb hm hinv
  go_enter Try.func31, Try.ntmps31
  go_wp2_with fail
  generalize ((w.alloc (.cells #[.string x.s0, .string x.s1, .bool x.b2, .bool x.b3, .bool x.b4, .bool x.b5, .bool x.b6, .bool x.b7, .bool x.b8, .bool x.b9, .slice x.A10 x.n10 x.c10, .slice AT ts.length cT, .slice AR rs.length cR, .slice x.A13 x.n13 x.c13, .slice x.A14 x.n14 x.c14, .slice x.A15 x.n15 x.c15, .slice AI is.length cI, .slice x.A17 x.n17 x.c17] 36)).alloc (.cells #[.map (some Bm)] 75)).alloc (.cells #[.int .i64 (q : Int)] 3) = w3 at *
  go_loopw [17] (fun i wq => ∃ k : Nat, k ≤ ts.length ∧ i = .int .i64 k ∧ Aside0 (UsersAt x AT cT AR cR AI cI ts rs is Bm q lm K inv w wq (taskUsers rs ts q k))) (fun i _ => ts.length - (intOf i).toNat)
  case atStart => exact ⟨0, by omega, rfl, HU⟩
  case round =>
    clear HU
    obtain ⟨k, hk, rfl, HU⟩ := hrel
    by_cases hlt : k < ts.length
    · have hd : decide ((k : Int) < (ts.length : Int)) = true := decide_eq_true (by omega)
      have HLT := Aside0.mk (Nat.succ_le_of_lt hlt)
      obtain ⟨ad, A4, c4, A5, c5, A6, c6, A7, c7, e, hta, l5, g5⟩ := task_cells HU.out.cfg.t k hlt
      subst e
      have HL5 := Aside0.mk l5
      have HTA := Aside0.mk hta
      have HRG := Aside0.mk (rises_range rs.length _ (-1) (HOK.out.t k hlt))
      have HST := Aside0.mk (task_step rs ts q k)
      have hba : Below wr.heap.size wr (wr.alloc (.cells #[.string (ts.getD k z64).f0, .int .i64 (ts.getD k z64).f1, .bool (ts.getD k z64).f2, .int .i64 (ts.getD k z64).f3, .slice A4 (ts.getD k z64).f4.length c4, .slice A5 (ts.getD k z64).f5.length c5, .slice A6 (ts.getD k z64).f6.length c6, .slice A7 (ts.getD k z64).f7.length c7] 64)) := (Below.refl _ _).alloc (Nat.le_refl _) _
      have HGa := Aside0.mk (Kd.C_below g5 hba)
      clear g5 l5 hta
      generalize ts.getD k z64 = t at *
      have hba : Below wr.heap.size wr (wr.alloc (.cells #[.string t.f0, .int .i64 t.f1, .bool t.f2, .int .i64 t.f3, .slice A4 t.f4.length c4, .slice A5 t.f5.length c5, .slice A6 t.f6.length c6, .slice A7 t.f7.length c7] 64)) := (Below.refl _ _).alloc (Nat.le_refl _) _
      have HUa := Aside0.mk (HU.out.below HD.out hba)
      have hy1 : (wr.alloc (.cells #[.string t.f0, .int .i64 t.f1, .bool t.f2, .int .i64 t.f3, .slice A4 t.f4.length c4, .slice A5 t.f5.length c5, .slice A6 t.f6.length c6, .slice A7 t.f7.length c7] 64)).cell? ⟨wr.heap.size, 1, none⟩ = some (.int .i64 t.f1) := by rw [World.cell?_alloc_new]; rfl
      have HY1 := Aside0.mk hy1
      clear hba HU hy1
      go_wp2_with (first | ((with_reducible refine gate_dst (N := 21) rfl ?_); refine load64 HTA.out rfl (.tmp 20) rfl rfl ?_))
      clear HTA
      generalize wr.alloc (.cells #[.string t.f0, .int .i64 t.f1, .bool t.f2, .int .i64 t.f3, .slice A4 t.f4.length c4, .slice A5 t.f5.length c5, .slice A6 t.f6.length c6, .slice A7 t.f7.length c7] 64) = wa at *
      generalize wr.heap.size = X at *
      refine (uses_calls (w.heap.size + 1) Bm q rs lm A5 c5 t.f5 wa HUa.out.two HUa.out.map HRT.out HN.out HQ.out HGa.out HL5.out (fun r hr => by have := HRG.out r hr; omega)).mono ?_
      rintro e wz ⟨rfl, rfl⟩
      cases hus : usesF rs q t.f5 with
      | true =>
        have HS2 := Aside0.mk (show taskUsers rs ts q (k + 1) = taskUsers rs ts q k ++ [(false, k, t.f1)] by rw [HST.out, hus]; rfl)
        have hy1 := HY1.out
        clear hus
        go_wp2_with fail
        refine (HD.out.call _ _ wa false k t.f1 HUa.out.inv_ (by have := task_len rs ts q k; have := HLT.out; omega)).mono ?_
        rintro e wb ⟨⟨v, rfl⟩, hi2, hs2⟩
        have HUb := Aside0.mk (HUa.out.done HC.out HWC.out HK.out HKM.out hi2 hs2)
        clear hi2 hs2 hy1
        go_wp2_with fail
        go_roundw
        case rel => exact ⟨k + 1, HLT.out, by go_num, ⟨by rw [HS2.out]; exact HUb.out⟩⟩
        case measure => have := HLT.out; simp [intOf]; omega
      | false =>
        have HS2 := Aside0.mk (show taskUsers rs ts q (k + 1) = taskUsers rs ts q k by rw [HST.out, hus]; simp)
        clear hus
        go_wp2_with fail
        go_roundw
        case rel => exact ⟨k + 1, HLT.out, by go_num, ⟨by rw [HS2.out]; exact HUa.out⟩⟩
        case measure => have := HLT.out; simp [intOf]; omega
    · have hd : decide ((k : Int) < (ts.length : Int)) = false := decide_eq_false (by omega)
      have HE := Aside0.mk (show k = ts.length by omega)
      have HU2 := Aside0.mk (show UsersAt x AT cT AR cR AI cI ts rs is Bm q lm K inv w wr (taskUsers rs ts q ts.length ++ isrUsers rs is q 0) from by rw [← HE.out]; have h : isrUsers rs is q 0 = [] := rfl; rw [h, List.append_nil]; exact HU.out)
      have q16 := HU.out.box.isrs
      clear HU
      go_wp2_with fail
      clear q16
      go_loopw [35] (fun i wq => ∃ j : Nat, j ≤ is.length ∧ i = .int .i64 j ∧ Aside0 (UsersAt x AT cT AR cR AI cI ts rs is Bm q lm K inv w wq (taskUsers rs ts q ts.length ++ isrUsers rs is q j))) (fun i _ => is.length - (intOf i).toNat)
      case atStart => exact ⟨0, by omega, rfl, HU2⟩
      case round =>
        clear HU2
        obtain ⟨j, hj, rfl, HU⟩ := hrel
        by_cases hlt : j < is.length
        · have hd : decide ((j : Int) < (is.length : Int)) = true := decide_eq_true (by omega)
          have HLT := Aside0.mk (Nat.succ_le_of_lt hlt)
          obtain ⟨ad, A3, c3, A4, c4, e, hta, l5, g5⟩ := isr_cells HU.out.cfg.i j hlt
          subst e
          have HL5 := Aside0.mk l5
          have HTA := Aside0.mk hta
          have HRG := Aside0.mk (rises_range rs.length _ (-1) (HOK.out.i j hlt))
          have HST := Aside0.mk (isr_step rs is q j)
          have HG5 := Aside0.mk g5
          clear g5 l5 hta
          generalize is.getD j z66 = t at *
          have hba : Below wr.heap.size wr (wr.alloc (.cells #[.string t.f0, .int .i64 t.f1, .int .i64 t.f2, .slice A3 t.f3.length c3, .slice A4 t.f4.length c4] 66)) := (Below.refl _ _).alloc (Nat.le_refl _) _
          have HUa := Aside0.mk (HU.out.below HD.out hba)
          have HGa := Aside0.mk (Kd.C_below HG5.out hba)
          have hy1 : (wr.alloc (.cells #[.string t.f0, .int .i64 t.f1, .int .i64 t.f2, .slice A3 t.f3.length c3, .slice A4 t.f4.length c4] 66)).cell? ⟨wr.heap.size, 2, none⟩ = some (.int .i64 t.f2) := by rw [World.cell?_alloc_new]; rfl
          have HY1 := Aside0.mk hy1
          clear hba HU hy1
          go_wp2_with (first | ((with_reducible refine gate_dst (N := 39) rfl ?_); refine load66 HTA.out rfl (.tmp 38) rfl rfl ?_))
          clear HTA
          generalize wr.alloc (.cells #[.string t.f0, .int .i64 t.f1, .int .i64 t.f2, .slice A3 t.f3.length c3, .slice A4 t.f4.length c4] 66) = wa at *
          generalize wr.heap.size = X at *
          refine (uses_calls (w.heap.size + 1) Bm q rs lm A3 c3 t.f3 wa HUa.out.two HUa.out.map HRT.out HN.out HQ.out HGa.out HL5.out (fun r hr => by have := HRG.out r hr; omega)).mono ?_
          rintro e wz ⟨rfl, rfl⟩
          cases hus : usesF rs q t.f3 with
          | true =>
            have HS2 := Aside0.mk (show isrUsers rs is q (j + 1) = isrUsers rs is q j ++ [(true, j, t.f2)] by rw [HST.out, hus]; rfl)
            have hy1 := HY1.out
            clear hus
            go_wp2_with fail
            refine (HD.out.call _ _ wa true j t.f2 HUa.out.inv_ (by have := task_len rs ts q ts.length; have := isr_len rs is q j; have := HLT.out; rw [List.length_append]; omega)).mono ?_
            rintro e wb ⟨⟨v, rfl⟩, hi2, hs2⟩
            have HUb := Aside0.mk (HUa.out.done HC.out HWC.out HK.out HKM.out hi2 hs2)
            clear hi2 hs2 hy1
            go_wp2_with fail
            go_roundw
            case rel => exact ⟨j + 1, HLT.out, by go_num, ⟨by rw [HS2.out, ← List.append_assoc]; exact HUb.out⟩⟩
            case measure => have := HLT.out; simp [intOf]; omega
          | false =>
            have HS2 := Aside0.mk (show isrUsers rs is q (j + 1) = isrUsers rs is q j by rw [HST.out, hus]; simp)
            clear hus
            go_wp2_with fail
            go_roundw
            case rel => exact ⟨j + 1, HLT.out, by go_num, ⟨by rw [HS2.out]; exact HUa.out⟩⟩
            case measure => have := HLT.out; simp [intOf]; omega
        · have hd : decide ((j : Int) < (is.length : Int)) = false := decide_eq_false (by omega)
          have HE2 := Aside0.mk (show j = is.length by omega)
          go_wp2_with fail
          go_end0
          exact ⟨⟨_, rfl⟩, by rw [← HE2.out]; exact HD.out.keep _ _ _ _ _ HU.out.inv_ (Below.refl _ _) (fun _ h => .inl (.inl h)), HU.out.step⟩
end Go.Proofs.Ytflkbheginhfiaa.XA
/- ceil.users, the function being number 39. -/
namespace Go.Proofs.Ytflkbheginhfiaa.XA
set_option linter.unusedVariables false
set_option linter.unusedSimpArgs false
open Go.RowKit Go.WideMaps Go.Maps Go.Proofs.YtflkbheginhfiaaW.PrintWords Go.Proofs.YtflkbheginhfiaaW.PrintLast Go.Proofs.YtflkbheginhfiaaW.PrintMore
set_option maxRecDepth 1000000 in
set_option maxHeartbeats 4000000 in
theorem users39_calls (x : CV) (AT : Option Addr) (cT : Nat) (AR : Option Addr) (cR : Nat) (AI : Option Addr) (cI : Nat) (ts : List S64) (rs : List S73) (is : List S66) (Bm q : Nat) (lm : List Nat) (p1 p2 : Addr) (inv : (Nat → Prop) → List (Bool × Nat × Int) → World → Prop) (hdo : DoFn 39 p1 p2 inv) (K : Nat → Prop) (w wc : World)
    (hC : Cfg wc AT cT AR cR AI cI ts rs is) (hwc : Below wc.heap.size wc w) (hK : ∀ k, k < wc.heap.size → K k) (hKm : K Bm) (hm : MapAt w Bm lm) (hr : Roots rs lm) (hn : lm.length = rs.length) (hq : q < rs.length) (hok : RefsOk ts rs is) (ht : ts.length ≤ 4398046511104) (hi : is.length ≤ 4398046511104) (hinv : inv K [] w) :
    Calls Try.prog 31 #[.agg #[.string x.s0, .string x.s1, .bool x.b2, .bool x.b3, .bool x.b4, .bool x.b5, .bool x.b6, .bool x.b7, .bool x.b8, .bool x.b9, .slice x.A10 x.n10 x.c10, .slice AT ts.length cT, .slice AR rs.length cR, .slice x.A13 x.n13 x.c13, .slice x.A14 x.n14 x.c14, .slice x.A15 x.n15 x.c15, .slice AI is.length cI, .slice x.A17 x.n17 x.c17], .map (some Bm), .int .i64 (q : Int), .func (.func 39) #[] #[.pointer (some p1), .pointer (some p2)]] w fun e w' => (∃ v, e = .returned v) ∧ inv K (taskUsers rs ts q ts.length ++ isrUsers rs is q is.length) w' ∧ KStep K w w' := by
  have HD := Aside0.mk hdo
  have HC := Aside0.mk hC
  have HWC := Aside0.mk hwc
  have HK := Aside0.mk hK
  have HKM := Aside0.mk hKm
  have HRT := Aside0.mk hr
  have HN := Aside0.mk hn
  have HOK := Aside0.mk hok
  have HQ := Aside0.mk hq
  have hb : Below w.heap.size w (((w.alloc (.cells #[.string x.s0, .string x.s1, .bool x.b2, .bool x.b3, .bool x.b4, .bool x.b5, .bool x.b6, .bool x.b7, .bool x.b8, .bool x.b9, .slice x.A10 x.n10 x.c10, .slice AT ts.length cT, .slice AR rs.length cR, .slice x.A13 x.n13 x.c13, .slice x.A14 x.n14 x.c14, .slice x.A15 x.n15 x.c15, .slice AI is.length cI, .slice x.A17 x.n17 x.c17] 36)).alloc (.cells #[.map (some Bm)] 75)).alloc (.cells #[.int .i64 (q : Int)] 3)) := (((Below.refl _ _).alloc (Nat.le_refl _) _).alloc (by simp) _).alloc (by simp; omega) _
  have HU := Aside0.mk (show UsersAt x AT cT AR cR AI cI ts rs is Bm q lm K inv w (((w.alloc (.cells #[.string x.s0, .string x.s1, .bool x.b2, .bool x.b3, .bool x.b4, .bool x.b5, .bool x.b6, .bool x.b7, .bool x.b8, .bool x.b9, .slice x.A10 x.n10 x.c10, .slice AT ts.length cT, .slice AR rs.length cR, .slice x.A13 x.n13 x.c13, .slice x.A14 x.n14 x.c14, .slice x.A15 x.n15 x.c15, .slice AI is.length cI, .slice x.A17 x.n17 x.c17] 36)).alloc (.cells #[.map (some Bm)] 75)).alloc (.cells #[.int .i64 (q : Int)] 3)) [] from
    ⟨(BoxAt.made w x AT cT AR cR AI cI ts.length rs.length is.length).below (((Below.refl _ _).alloc (Nat.le_refl _) _).alloc (by simp) _), ⟨by
        have h1 := heap_alloc_new (w.alloc (.cells #[.string x.s0, .string x.s1, .bool x.b2, .bool x.b3, .bool x.b4, .bool x.b5, .bool x.b6, .bool x.b7, .bool x.b8, .bool x.b9, .slice x.A10 x.n10 x.c10, .slice AT ts.length cT, .slice AR rs.length cR, .slice x.A13 x.n13 x.c13, .slice x.A14 x.n14 x.c14, .slice x.A15 x.n15 x.c15, .slice AI is.length cI, .slice x.A17 x.n17 x.c17] 36)) (.cells #[.map (some Bm)] 75)
        rw [World.size_alloc] at h1
        rw [heap_alloc_old _ _ (by simp)]
        exact h1, by
        have h1 := heap_alloc_new ((w.alloc (.cells #[.string x.s0, .string x.s1, .bool x.b2, .bool x.b3, .bool x.b4, .bool x.b5, .bool x.b6, .bool x.b7, .bool x.b8, .bool x.b9, .slice x.A10 x.n10 x.c10, .slice AT ts.length cT, .slice AR rs.length cR, .slice x.A13 x.n13 x.c13, .slice x.A14 x.n14 x.c14, .slice x.A15 x.n15 x.c15, .slice AI is.length cI, .slice x.A17 x.n17 x.c17] 36)).alloc (.cells #[.map (some Bm)] 75)) (.cells #[.int .i64 (q : Int)] 3)
        rw [World.size_alloc, World.size_alloc] at h1
        exact h1⟩, hm.below hb, hC.below (hwc.trans (hb.mono hwc.size)), hdo.keep K _ _ _ _ hinv hb (fun k hk => by rcases hk with h | h | h | h <;> first | exact .inl h | exact .inr ⟨by omega, by rw [World.size_alloc, World.size_alloc, World.size_alloc]; omega⟩), KStep.of_below hb⟩)
  clear hdo hC hwc hK hKm hr hn hok hq hb hm hinv
  go_enter Try.func31, Try.ntmps31
  go_wp2_with fail
  generalize ((w.alloc (.cells #[.string x.s0, .string x.s1, .bool x.b2, .bool x.b3, .bool x.b4, .bool x.b5, .bool x.b6, .bool x.b7, .bool x.b8, .bool x.b9, .slice x.A10 x.n10 x.c10, .slice AT ts.length cT, .slice AR rs.length cR, .slice x.A13 x.n13 x.c13, .slice x.A14 x.n14 x.c14, .slice x.A15 x.n15 x.c15, .slice AI is.length cI, .slice x.A17 x.n17 x.c17] 36)).alloc (.cells #[.map (some Bm)] 75)).alloc (.cells #[.int .i64 (q : Int)] 3) = w3 at *
  go_loopw [17] (fun i wq => ∃ k : Nat, k ≤ ts.length ∧ i = .int .i64 k ∧ Aside0 (UsersAt x AT cT AR cR AI cI ts rs is Bm q lm K inv w wq (taskUsers rs ts q k))) (fun i _ => ts.length - (intOf i).toNat)
  case atStart => exact ⟨0, by omega, rfl, HU⟩
  case round =>
    clear HU
    obtain ⟨k, hk, rfl, HU⟩ := hrel
    by_cases hlt : k < ts.length
    · have hd : decide ((k : Int) < (ts.length : Int)) = true := decide_eq_true (by omega)
      have HLT := Aside0.mk (Nat.succ_le_of_lt hlt)
      obtain ⟨ad, A4, c4, A5, c5, A6, c6, A7, c7, e, hta, l5, g5⟩ := task_cells HU.out.cfg.t k hlt
      subst e
      have HL5 := Aside0.mk l5
      have HTA := Aside0.mk hta
      have HRG := Aside0.mk (rises_range rs.length _ (-1) (HOK.out.t k hlt))
      have HST := Aside0.mk (task_step rs ts q k)
      have hba : Below wr.heap.size wr (wr.alloc (.cells #[.string (ts.getD k z64).f0, .int .i64 (ts.getD k z64).f1, .bool (ts.getD k z64).f2, .int .i64 (ts.getD k z64).f3, .slice A4 (ts.getD k z64).f4.length c4, .slice A5 (ts.getD k z64).f5.length c5, .slice A6 (ts.getD k z64).f6.length c6, .slice A7 (ts.getD k z64).f7.length c7] 64)) := (Below.refl _ _).alloc (Nat.le_refl _) _
      have HGa := Aside0.mk (Kd.C_below g5 hba)
      clear g5 l5 hta
      generalize ts.getD k z64 = t at *
      have hba : Below wr.heap.size wr (wr.alloc (.cells #[.string t.f0, .int .i64 t.f1, .bool t.f2, .int .i64 t.f3, .slice A4 t.f4.length c4, .slice A5 t.f5.length c5, .slice A6 t.f6.length c6, .slice A7 t.f7.length c7] 64)) := (Below.refl _ _).alloc (Nat.le_refl _) _
      have HUa := Aside0.mk (HU.out.below HD.out hba)
      have hy1 : (wr.alloc (.cells #[.string t.f0, .int .i64 t.f1, .bool t.f2, .int .i64 t.f3, .slice A4 t.f4.length c4, .slice A5 t.f5.length c5, .slice A6 t.f6.length c6, .slice A7 t.f7.length c7] 64)).cell? ⟨wr.heap.size, 1, none⟩ = some (.int .i64 t.f1) := by rw [World.cell?_alloc_new]; rfl
      have HY1 := Aside0.mk hy1
      clear hba HU hy1
      go_wp2_with (first | ((with_reducible refine gate_dst (N := 21) rfl ?_); refine load64 HTA.out rfl (.tmp 20) rfl rfl ?_))
      clear HTA
      generalize wr.alloc (.cells #[.string t.f0, .int .i64 t.f1, .bool t.f2, .int .i64 t.f3, .slice A4 t.f4.length c4, .slice A5 t.f5.length c5, .slice A6 t.f6.length c6, .slice A7 t.f7.length c7] 64) = wa at *
      generalize wr.heap.size = X at *
      refine (uses_calls (w.heap.size + 1) Bm q rs lm A5 c5 t.f5 wa HUa.out.two HUa.out.map HRT.out HN.out HQ.out HGa.out HL5.out (fun r hr => by have := HRG.out r hr; omega)).mono ?_
      rintro e wz ⟨rfl, rfl⟩
      cases hus : usesF rs q t.f5 with
      | true =>
        have HS2 := Aside0.mk (show taskUsers rs ts q (k + 1) = taskUsers rs ts q k ++ [(false, k, t.f1)] by rw [HST.out, hus]; rfl)
        have hy1 := HY1.out
        clear hus
        go_wp2_with fail
        refine (HD.out.call _ _ wa false k t.f1 HUa.out.inv_ (by have := task_len rs ts q k; have := HLT.out; omega)).mono ?_
        rintro e wb ⟨⟨v, rfl⟩, hi2, hs2⟩
        have HUb := Aside0.mk (HUa.out.done HC.out HWC.out HK.out HKM.out hi2 hs2)
        clear hi2 hs2 hy1
        go_wp2_with fail
        go_roundw
        case rel => exact ⟨k + 1, HLT.out, by go_num, ⟨by rw [HS2.out]; exact HUb.out⟩⟩
        case measure => have := HLT.out; simp [intOf]; omega
      | false =>
        have HS2 := Aside0.mk (show taskUsers rs ts q (k + 1) = taskUsers rs ts q k by rw [HST.out, hus]; simp)
        clear hus
        go_wp2_with fail
        go_roundw
        case rel => exact ⟨k + 1, HLT.out, by go_num, ⟨by rw [HS2.out]; exact HUa.out⟩⟩
        case measure => have := HLT.out; simp [intOf]; omega
    · have hd : decide ((k : Int) < (ts.length : Int)) = false := decide_eq_false (by omega)
      have HE := Aside0.mk (show k = ts.length by omega)
      have HU2 := Aside0.mk (show UsersAt x AT cT AR cR AI cI ts rs is Bm q lm K inv w wr (taskUsers rs ts q ts.length ++ isrUsers rs is q 0) from by rw [← HE.out]; have h : isrUsers rs is q 0 = [] := rfl; rw [h, List.append_nil]; exact HU.out)
      have q16 := HU.out.box.isrs
      clear HU
      go_wp2_with fail
      clear q16
      go_loopw [35] (fun i wq => ∃ j : Nat, j ≤ is.length ∧ i = .int .i64 j ∧ Aside0 (UsersAt x AT cT AR cR AI cI ts rs is Bm q lm K inv w wq (taskUsers rs ts q ts.length ++ isrUsers rs is q j))) (fun i _ => is.length - (intOf i).toNat)
      case atStart => exact ⟨0, by omega, rfl, HU2⟩
      case round =>
        clear HU2
        obtain ⟨j, hj, rfl, HU⟩ := hrel
        by_cases hlt : j < is.length
        · have hd : decide ((j : Int) < (is.length : Int)) = true := decide_eq_true (by omega)
          have HLT := Aside0.mk (Nat.succ_le_of_lt hlt)
          obtain ⟨ad, A3, c3, A4, c4, e, hta, l5, g5⟩ := isr_cells HU.out.cfg.i j hlt
          subst e
          have HL5 := Aside0.mk l5
          have HTA := Aside0.mk hta
          have HRG := Aside0.mk (rises_range rs.length _ (-1) (HOK.out.i j hlt))
          have HST := Aside0.mk (isr_step rs is q j)
          have HG5 := Aside0.mk g5
          clear g5 l5 hta
          generalize is.getD j z66 = t at *
          have hba : Below wr.heap.size wr (wr.alloc (.cells #[.string t.f0, .int .i64 t.f1, .int .i64 t.f2, .slice A3 t.f3.length c3, .slice A4 t.f4.length c4] 66)) := (Below.refl _ _).alloc (Nat.le_refl _) _
          have HUa := Aside0.mk (HU.out.below HD.out hba)
          have HGa := Aside0.mk (Kd.C_below HG5.out hba)
          have hy1 : (wr.alloc (.cells #[.string t.f0, .int .i64 t.f1, .int .i64 t.f2, .slice A3 t.f3.length c3, .slice A4 t.f4.length c4] 66)).cell? ⟨wr.heap.size, 2, none⟩ = some (.int .i64 t.f2) := by rw [World.cell?_alloc_new]; rfl
          have HY1 := Aside0.mk hy1
          clear hba HU hy1
          go_wp2_with (first | ((with_reducible refine gate_dst (N := 39) rfl ?_); refine load66 HTA.out rfl (.tmp 38) rfl rfl ?_))
          clear HTA
          generalize wr.alloc (.cells #[.string t.f0, .int .i64 t.f1, .int .i64 t.f2, .slice A3 t.f3.length c3, .slice A4 t.f4.length c4] 66) = wa at *
          generalize wr.heap.size = X at *
          refine (uses_calls (w.heap.size + 1) Bm q rs lm A3 c3 t.f3 wa HUa.out.two HUa.out.map HRT.out HN.out HQ.out HGa.out HL5.out (fun r hr => by have := HRG.out r hr; omega)).mono ?_
          rintro e wz ⟨rfl, rfl⟩
          cases hus : usesF rs q t.f3 with
          | true =>
            have HS2 := Aside0.mk (show isrUsers rs is q (j + 1) = isrUsers rs is q j ++ [(true, j, t.f2)] by rw [HST.out, hus]; rfl)
            have hy1 := HY1.out
            clear hus
            go_wp2_with fail
            refine (HD.out.call _ _ wa true j t.f2 HUa.out.inv_ (by have := task_len rs ts q ts.length; have := isr_len rs is q j; have := HLT.out; rw [List.length_append]; omega)).mono ?_
            rintro e wb ⟨⟨v, rfl⟩, hi2, hs2⟩
            have HUb := Aside0.mk (HUa.out.done HC.out HWC.out HK.out HKM.out hi2 hs2)
            clear hi2 hs2 hy1
            go_wp2_with fail
            go_roundw
            case rel => exact ⟨j + 1, HLT.out, by go_num, ⟨by rw [HS2.out, ← List.append_assoc]; exact HUb.out⟩⟩
            case measure => have := HLT.out; simp [intOf]; omega
          | false =>
            have HS2 := Aside0.mk (show isrUsers rs is q (j + 1) = isrUsers rs is q j by rw [HST.out, hus]; simp)
            clear hus
            go_wp2_with fail
            go_roundw
            case rel => exact ⟨j + 1, HLT.out, by go_num, ⟨by rw [HS2.out]; exact HUa.out⟩⟩
            case measure => have := HLT.out; simp [intOf]; omega
        · have hd : decide ((j : Int) < (is.length : Int)) = false := decide_eq_false (by omega)
          have HE2 := Aside0.mk (show j = is.length by omega)
          go_wp2_with fail
          go_end0
          exact ⟨⟨_, rfl⟩, by rw [← HE2.out]; exact HD.out.keep _ _ _ _ _ HU.out.inv_ (Below.refl _ _) (fun _ h => .inl (.inl h)), HU.out.step⟩
end Go.Proofs.Ytflkbheginhfiaa.XA
