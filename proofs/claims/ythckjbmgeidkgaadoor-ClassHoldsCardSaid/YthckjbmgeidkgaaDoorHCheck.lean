/- class.Check: the first kind of which an object may not be. -/
import Derived.Test.YthckjbmgeidkgaaDoorHTab
import Derived.Deep.WholeRow
import Derived.Laws.CopyOwn
namespace Go.Proofs.YthckjbmgeidkgaaDoor.XA
set_option linter.unusedVariables false
set_option linter.unusedSimpArgs false
open Go.RowKit Go.WideMaps Go.Maps Go.Proofs.YthckjbmgeidkgaaDoorW.PrintWords Go.Proofs.YthckjbmgeidkgaaDoorW.PrintLast Go.Proofs.YthckjbmgeidkgaaDoorW.PrintMore
section
variable {ops : Array Oper} {rest : List Oper} {o : Oper} {a : Act}
theorem agg72 (w : World) : (isAgg 72).run Tryd.prog w = .ok true w := by kernel_rfl
theorem size72 (w : World) : (sizeOf 72).run Tryd.prog w = .ok 6 w := by kernel_rfl
theorem store72 {Q : Exit → Act → World → Prop} {w : World} {z : Array Value} (hz : z.size = 6) (cs : Array Value) (hcs : cs.size = 6) (h1 : cs.all (·.oneCell') = true) (hgd : o.guard = none) (x y : Operand) (ho : o.op = .store 72 x y) (hx : a.eval x = .pointer (some ⟨w.heap.size, 0, none⟩)) (hy : a.eval y = .agg cs)
    (h : wpList Tryd.prog ops Q rest (a.put o.dst undef) (w.alloc (.cells cs 72))) : wpList Tryd.prog ops Q (o :: rest) a (w.alloc (.cells z 72)) :=
  wpList_plain hgd fun _ hK => by
    have hr := run_storeVar_new (P := Tryd.prog) w 72 z cs (by rw [hcs]; kernel_rfl) (by omega) h1
    unfold Oper.wp execOp
    simp only [ho, hx, hy, Instr.storeAt, Instr.sureAddr, Sem.run_bind, Sem.run_pure, Result.andThen_ok, hr]
    exact hK _ _ h
theorem store36 {Q : Exit → Act → World → Prop} {w : World} {B : Nat} {cd : Int} {wd : ByteArray} {id : Int} (hg : w.heap[B]? = some (.cells #[.int .i64 0, .string ⟨#[]⟩, .int .i64 0] 36 (0, 0))) (hgd : o.guard = none) (x y : Operand) (ho : o.op = .store 36 x y) (hx : a.eval x = .pointer (some ⟨B, 0, none⟩)) (hy : a.eval y = .agg #[.int .i64 cd, .string wd, .int .i64 id])
    (h : wpList Tryd.prog ops Q rest (a.put o.dst undef) (w.setRow B #[.int .i64 cd, .string wd, .int .i64 id])) : wpList Tryd.prog ops Q (o :: rest) a w :=
  wpList_store_row hgd 36 x y ho B _ hx hy 36 _ hg (by kernel_rfl) rfl (by simp [Value.oneCell']) h
theorem load36 {Q : Exit → Act → World → Prop} {w : World} {g : Nat} {cd : Int} {wd : ByteArray} {id : Int} (hg : w.heap[g]? = some (.cells #[.int .i64 cd, .string wd, .int .i64 id] 81 (0, 0))) (hgd : o.guard = none) (y : Operand) (ho : o.op = .load 36 y) (hy : a.eval y = .pointer (some ⟨g, 0, none⟩)) (h : wpList Tryd.prog ops Q rest (a.put o.dst (.agg #[.int .i64 cd, .string wd, .int .i64 id])) w) : wpList Tryd.prog ops Q (o :: rest) a w := by
  refine Kd.event_run hgd (v := .agg #[.int .i64 cd, .string wd, .int .i64 id]) ?_ h
  have hl := load_agg (w := w) (t := 36) (n := 3) (a := (⟨g, 0, none⟩ : Addr)) (cs := [.int .i64 cd, .string wd, .int .i64 id]) (fun w => by kernel_rfl) (fun w => by kernel_rfl) rfl (fun j v hj => by
    exact cell_of hg (by simpa using hj))
  simp only [execOp, ho, hy]
  simp [hl, Result.andThen]
theorem add_eq (b o m : Nat) : ((⟨b, 0, none⟩ : Addr).add o).add m = ⟨b, o + m, none⟩ := by rw [add_add]; unfold Addr.add; split <;> simp_all
end
/-- As, at a target of our own -/
theorem as_hit' (e t : Addr) (old : Value) (b0 : Nat) (w : World) (hg : w.cell? ⟨0, 0, none⟩ = some (.iface 112 (.agg #[.pointer (some ⟨1, 76, none⟩)]))) (ht0 : w.cell? t = some old) (hf0 : w.frozen? t = false) (hb : b0 ≤ t.block) (hbw : b0 ≤ w.heap.size) :
    Calls Tryd.prog 17 #[.iface 73 (.pointer (some e)), .iface 79 (.pointer (some t))] w fun ev w' => ev = .returned (.bool true) ∧ w'.cell? t = some (.pointer (some e)) ∧ Below b0 w w' ∧ ∀ k, k < w.heap.size → k ≠ t.block → w'.heap[k]? = w.heap[k]? := by
  refine (as_hit e t old w hg ht0 hf0).mono ?_
  rintro ev w' ⟨rfl, rfl⟩
  have hlt : t.block < w.heap.size := World.block_lt_of_cell? w _ ht0
  have hB := (((((Below.refl w.heap.size w).alloc (Nat.le_refl _) (.cells #[.pointer (some t)] 79)).alloc (by simp only [World.size_alloc]; omega) (.cells #[.pointer (some ⟨1, 79, none⟩), .pointer (some ⟨w.heap.size, 0, none⟩), .int .u64 150] 95)).alloc (by simp only [World.size_alloc]; omega) (.cells #[.pointer (some ⟨1, 79, none⟩), .pointer (some ⟨w.heap.size, 0, none⟩), .int .u64 150] 95)).alloc (by simp only [World.size_alloc]; omega) (.cells #[.pointer (some e)] 73))
  generalize (((w.alloc (.cells #[.pointer (some t)] 79)).alloc (.cells #[.pointer (some ⟨1, 79, none⟩), .pointer (some ⟨w.heap.size, 0, none⟩), .int .u64 150] 95)).alloc (.cells #[.pointer (some ⟨1, 79, none⟩), .pointer (some ⟨w.heap.size, 0, none⟩), .int .u64 150] 95)).alloc (.cells #[.pointer (some e)] 73) = w1 at hB ⊢
  refine ⟨rfl, World.cell?_setCell_same w1 t _ ((hB.cell hlt).trans ht0), (hB.mono hbw).setCell hb _, fun k hk hn => ?_⟩
  rw [Below.heap_setCell _ _ _ _ hn]
  exact hB.block k hk
def verR (c : S33) : Value := .agg #[.int .i64 (verV c).1, .string (verV c).2.1, .int .i64 (verV c).2.2]
/-- errors' own variable, as the program's text lays it -/
def GlobAt (w : World) : Prop := w.cell? ⟨0, 0, none⟩ = some (.iface 112 (.agg #[.pointer (some ⟨1, 76, none⟩)]))
theorem GlobAt.below {w w1 : World} (h : GlobAt w) (hB : Below w.heap.size w w1) : GlobAt w1 := (hB.cell (World.block_lt_of_cell? w _ h)).trans h
structure ChkSt (w0 wr : World) (V : CV) (c : S33) : Prop where
  bel : Below w0.heap.size w0 wr
  at_ : At wr w0.heap.size V c
  res : wr.heap[w0.heap.size + 1]? = some (.cells #[.int .i64 0, .string ⟨#[]⟩, .int .i64 0] 36 (0, 0))
  tab : TabAt wr (w0.heap.size + 1 + 1)
structure ChkPre (w0 wr : World) (V : CV) (c : S33) : Prop where
  bel : Below w0.heap.size w0 wr
  at_ : At wr w0.heap.size V c
  res : wr.heap[w0.heap.size + 1]? = some (.cells #[.int .i64 0, .string ⟨#[]⟩, .int .i64 0] 36 (0, 0))
theorem ChkSt.below {w0 wr w1 : World} {V : CV} {c : S33} (h : ChkSt w0 wr V c) (hB : Below wr.heap.size wr w1) : ChkSt w0 w1 V c :=
  ⟨h.bel.trans (hB.mono h.bel.size), h.at_.below hB, (hB.block _ (blk_lt h.res)).trans h.res, h.tab.below hB⟩
theorem below_a2 (w : World) (o o1 : Obj) : Below w.heap.size w ((w.alloc o).alloc o1) := ((Below.refl _ _).alloc (Nat.le_refl _) _).alloc (by simp only [World.size_alloc]; omega) _
set_option maxRecDepth 1000000 in
set_option maxHeartbeats 4000000 in
theorem check_calls (V : CV) (c : S33) (w : World) (h : Cf w V c) (hg : GlobAt w) : Calls Tryd.prog 7 #[.agg (arr V c)] w fun e w' => e = .returned (verR c) ∧ Below w.heap.size w w' := by
  have HG := Aside0.mk hg
  have HA := Aside0.mk (At.made h)
  have HB := Aside0.mk (below_a w (.cells (arr V c) 33))
  clear h hg
  go_enter Tryd.func7, Tryd.ntmps7
  unfold arr at *
  go_wp2_with fail
  have HST := Aside0.mk (show Cf (w.alloc (.cells #[.string c.f0, .string c.f1.f0, .bool c.f1.f1, .bool c.f1.f2, .bool c.f1.f3, .bool c.f1.f4, .bool c.f1.f5, .bool c.f1.f6, .bool c.f1.f7, .bool c.f1.f8, .slice V.a10 c.f2.length V.k10, .slice V.a11 c.f3.length V.k11, .slice V.a12 c.f4.length V.k12, .slice V.a13 c.f5.length V.k13, .slice V.a14 c.f6.length V.k14, .slice V.a15 c.f7.length V.k15, .slice V.a16 c.f8.length V.k16, .slice V.a17 c.f9.length V.k17] 33)) V c from HA.out.cf)
  generalize hw1 : (w.alloc (.cells #[.string c.f0, .string c.f1.f0, .bool c.f1.f1, .bool c.f1.f2, .bool c.f1.f3, .bool c.f1.f4, .bool c.f1.f5, .bool c.f1.f6, .bool c.f1.f7, .bool c.f1.f8, .slice V.a10 c.f2.length V.k10, .slice V.a11 c.f3.length V.k11, .slice V.a12 c.f4.length V.k12, .slice V.a13 c.f5.length V.k13, .slice V.a14 c.f6.length V.k14, .slice V.a15 c.f7.length V.k15, .slice V.a16 c.f8.length V.k16, .slice V.a17 c.f9.length V.k17] 33)).alloc (.cells #[.int .i64 0, .string ⟨#[]⟩, .int .i64 0] 36) = w1
  have HS1 := Aside0.mk (show ChkPre w w1 V c from by rw [← hw1]; exact ⟨HB.out.alloc HB.out.size _, HA.out.below (below_a _ _), al_new _ _ _ (by simp only [World.size_alloc])⟩)
  have HSZ := Aside0.mk (show w1.heap.size = w.heap.size + 1 + 1 from by rw [← hw1]; simp only [World.size_alloc])
  clear hw1 HA HB HST
  refine (table_calls w1).mono ?_
  rintro e w2 ⟨rfl, HT, B2⟩
  rw [HSZ.out] at HT B2 ⊢
  have HS := Aside0.mk (show ChkSt w w2 V c from ⟨HS1.out.bel.trans (B2.mono (by omega)), HS1.out.at_.below (by rw [HSZ.out]; exact B2), (B2.block _ (by omega)).trans HS1.out.res, HT⟩)
  clear HT B2
  go_wp2_with fail
  clear HS1
  go_loopw [8] (fun kv wr => ∃ k : Nat, k ≤ 10 ∧ kv = .int .i64 k ∧ Aside0 (ChkSt w wr V c) ∧ Aside0 (verV c = verF (kinds.drop k) c)) (fun kv _ => 10 - (intOf kv).toNat)
  case atStart => exact ⟨0, by omega, rfl, HS, ⟨rfl⟩⟩
  case round =>
    clear HS
    obtain ⟨k, hk, rfl, HS, HR⟩ := hrel
    by_cases hlt : k < 10
    · have hd : decide ((k : Int) < 10) = true := decide_eq_true (by omega)
      obtain ⟨K, hj⟩ : ∃ K, kinds[k]? = some K := ⟨_, List.getElem?_eq_getElem hlt⟩
      obtain ⟨A, cap, hK, hcap, hfl, hfs, hcs⟩ := row_at HS.out.tab k K hj
      have HV := Aside0.mk (HR.out.trans (verF_drop c kinds k K hj))
      have HK := Aside0.mk hK
      have HF := Aside0.mk hfs
      have HC := Aside0.mk hcs
      have y0 : wr.cell? ⟨w.heap.size + 1 + 1 + 1 + 1 + 1 + 1 + 1 + 1 + 1, k * 6, none⟩ = some (.string K.word) := by have := hcs 0 _ rfl; rw [add_eq] at this; exact this
      have y1 : wr.cell? ⟨w.heap.size + 1 + 1 + 1 + 1 + 1 + 1 + 1 + 1 + 1, k * 6 + 1, none⟩ = some (.func (.func K.fc) #[] #[]) := by have := hcs 1 _ rfl; rw [add_eq] at this; exact this
      have y2 : wr.cell? ⟨w.heap.size + 1 + 1 + 1 + 1 + 1 + 1 + 1 + 1 + 1, k * 6 + 2, none⟩ = some (.func (.func K.fn) #[] #[]) := by have := hcs 2 _ rfl; rw [add_eq] at this; exact this
      have y3 : wr.cell? ⟨w.heap.size + 1 + 1 + 1 + 1 + 1 + 1 + 1 + 1 + 1, k * 6 + 3, none⟩ = some (.int .i64 K.lo) := by have := hcs 3 _ rfl; rw [add_eq] at this; exact this
      have y4 : wr.cell? ⟨w.heap.size + 1 + 1 + 1 + 1 + 1 + 1 + 1 + 1 + 1, k * 6 + 4, none⟩ = some (.int .i64 K.hi) := by have := hcs 4 _ rfl; rw [add_eq] at this; exact this
      have y5 : wr.cell? ⟨w.heap.size + 1 + 1 + 1 + 1 + 1 + 1 + 1 + 1 + 1, k * 6 + 5, none⟩ = some (.slice A K.fs.length cap) := by have := hcs 5 _ rfl; rw [add_eq] at this; exact this
      clear hj hK hfs hcs HR
      go_wp2_with (refine store72 (by rfl) #[.string K.word, .func (.func K.fc) #[] #[], .func (.func K.fn) #[] #[], .int .i64 K.lo, .int .i64 K.hi, .slice A K.fs.length cap] (by rfl) (by simp [Value.oneCell']) (by rfl) (.tmp 4) (.tmp 11) (by rfl) (by rfl) (by rfl) ?_)
      have HWB := Aside0.mk (below_a2 wr (.cells #[.string K.word, .func (.func K.fc) #[] #[], .func (.func K.fn) #[] #[], .int .i64 K.lo, .int .i64 K.hi, .slice A K.fs.length cap] 72) (.cells #[.pointer none] 73))
      have HWT := Aside0.mk (heap_alloc_new (wr.alloc (.cells #[.string K.word, .func (.func K.fc) #[] #[], .func (.func K.fn) #[] #[], .int .i64 K.lo, .int .i64 K.hi, .slice A K.fs.length cap] 72)) (.cells #[.pointer none] 73))
      rw [World.size_alloc] at HWT
      have HWZ := Aside0.mk (show ((wr.alloc (.cells #[.string K.word, .func (.func K.fc) #[] #[], .func (.func K.fn) #[] #[], .int .i64 K.lo, .int .i64 K.hi, .slice A K.fs.length cap] 72)).alloc (.cells #[.pointer none] 73)).heap.size = wr.heap.size + 1 + 1 from by simp only [World.size_alloc])
      clear y0 y1 y2 y3 y4 y5 hd
      generalize (wr.alloc (.cells #[.string K.word, .func (.func K.fc) #[] #[], .func (.func K.fn) #[] #[], .int .i64 K.lo, .int .i64 K.hi, .slice A K.fs.length cap] 72)).alloc (.cells #[.pointer none] 73) = wt at *
      have HS2 := Aside0.mk (HS.out.below HWB.out)
      have HRL := Aside0.mk (show w.heap.size + 1 < wr.heap.size from blk_lt HS.out.res)
      have HG3 := Aside0.mk (HG.out.below HS2.out.bel)
      refine (look_calls K HK.out A cap w.heap.size V c wt HS2.out.at_ (HF.out.below HWB.out) hcap hfl).mono ?_
      rintro e w3 ⟨v, rfl, HL, B3⟩
      have HS3 := Aside0.mk (HS2.out.below B3)
      have HG4 := Aside0.mk (HG3.out.below B3)
      clear HG3
      have HWT3 := Aside0.mk ((B3.block _ (blk_lt HWT.out)).trans HWT.out)
      have HS3Z := Aside0.mk B3.size
      have HLL := Aside0.mk HL
      clear HS HS2 HWT HK HF HC B3 HL
      rcases hlk : K.look c with _ | ⟨code, id⟩
      · rw [hlk] at HV HLL
        obtain rfl : v = .nilIface := HLL.out
        clear HLL hlk
        go_wp2_with fail
        refine (as_nil _ _).mono ?_
        rintro e w4 ⟨rfl, rfl⟩
        go_wp2_with fail
        go_roundw
        case rel => exact ⟨k + 1, by omega, by go_num, HS3, HV⟩
        case measure => simp [intOf]; omega
      · rw [hlk] at HV HLL
        obtain ⟨g, rfl, hge, hgh⟩ := HLL.out
        have HGH := Aside0.mk hgh
        have HGE := Aside0.mk (show wr.heap.size + 1 < g from by rw [HWZ.out] at hge; omega)
        clear HLL hlk hge hgh
        go_wp2_with fail
        refine (as_hit' ⟨g, 0, none⟩ ⟨wr.heap.size + 1, 0, none⟩ (.pointer none) (wr.heap.size + 1) w3 HG4.out (cell_of (j := 0) HWT3.out rfl) (by simp [World.frozen?, HWT3.out]) (Nat.le_refl _) (by have := blk_lt HWT3.out; omega)).mono ?_
        rintro e w4 ⟨rfl, HC4, B4, F4⟩
        have HGH4 := Aside0.mk ((F4 g (blk_lt HGH.out) (by show g ≠ wr.heap.size + 1; have := HGE.out; omega)).trans HGH.out)
        have HR4 := Aside0.mk ((B4.block _ (by have := HRL.out; omega)).trans HS3.out.res)
        have HB4 := Aside0.mk (HS3.out.bel.trans (show Below w.heap.size w3 w4 from B4.mono (by have := HRL.out; omega)))
        clear B4 F4 HS3 HWT3 HGH HGE HG4
        go_wp2_with (first | (refine load36 HGH4.out (by rfl) (.tmp 18) (by rfl) (by rfl) ?_) | (refine store36 HR4.out (by rfl) (.tmp 2) (.tmp 19) (by rfl) (by rfl) (by rfl) ?_))
        have HPH := Aside0.mk (setRow_heap w4 (w.heap.size + 1) _ #[.int .i64 code, .string K.word, .int .i64 id] 36 (0, 0) HR4.out)
        have HF := Aside0.mk (below_setRow HB4.out (Nat.le_succ _) #[.int .i64 code, .string K.word, .int .i64 id])
        generalize w4.setRow (w.heap.size + 1) #[.int .i64 code, .string K.word, .int .i64 id] = w5 at *
        refine bodyPost_ret (results_cell_row rfl _ _ (w.heap.size + 1) 36 #[.int .i64 code, .string K.word, .int .i64 id] (0, 0) _ rfl HPH.out Tryd.underlying36 rfl (by kernel_rfl)) rfl ?_
        exact ⟨by unfold verR; rw [HV.out], HF.out⟩
    · have hd : decide ((k : Int) < 10) = false := decide_eq_false (by omega)
      have HV := Aside0.mk (show verV c = (0, ⟨#[]⟩, 0) from by rw [HR.out, show k = 10 by omega]; rfl)
      clear HR
      go_wp2_with (first | (refine store36 HS.out.res (by rfl) (.tmp 2) (.tmp 21) (by rfl) (by rfl) (by rfl) ?_))
      have HPH := Aside0.mk (setRow_heap wr (w.heap.size + 1) _ #[.int .i64 0, .string ⟨#[]⟩, .int .i64 0] 36 (0, 0) HS.out.res)
      have HF := Aside0.mk (below_setRow HS.out.bel (Nat.le_succ _) #[.int .i64 0, .string ⟨#[]⟩, .int .i64 0])
      generalize wr.setRow (w.heap.size + 1) #[.int .i64 0, .string ⟨#[]⟩, .int .i64 0] = w5 at *
      refine bodyPost_ret (results_cell_row rfl _ _ (w.heap.size + 1) 36 #[.int .i64 0, .string ⟨#[]⟩, .int .i64 0] (0, 0) _ rfl HPH.out Tryd.underlying36 rfl (by kernel_rfl)) rfl ?_
      exact ⟨by unfold verR; rw [HV.out], HF.out⟩
end Go.Proofs.YthckjbmgeidkgaaDoor.XA
