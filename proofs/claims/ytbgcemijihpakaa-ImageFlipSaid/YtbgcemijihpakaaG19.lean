/- body's mark: where a part begins. -/
import Derived.Test.YtbgcemijihpakaaG18
import Derived.StillTailTactics
namespace Go.Proofs.Ytbgcemijihpakaa.XA
set_option linter.unusedVariables false
set_option linter.unusedSimpArgs false
open Go.RowKit Go.WideMaps Go.Maps Go.Proofs.YtbgcemijihpakaaW.PrintWords Go.Proofs.YtbgcemijihpakaaW.PrintLast Go.Proofs.YtbgcemijihpakaaW.PrintMore
theorem row_kept {kd : IntKind} {e base : Nat} {w w' : World} {v : Value} {xs : List Int} (h : (Kd.int kd).R e w base (fun _ => True) v xs) (hk : ∀ k, k < w.heap.size → v.ownBlock = some k → w'.heap[k]? = w.heap[k]?) : (Kd.int kd).R e w' base (fun _ => True) v xs :=
 Kd.R_mono (Kd.R_step (Kd.R_tight rfl h) (fun k ho hlt => hk k hlt ho.symm)) (fun _ _ => trivial)
/-- block P is a variable that holds a row of whole numbers -/
structure AtS (w : World) (base P : Nat) (u : Value) (ats : List Int) : Prop where
 box : w.heap[P]? = some (.cells #[u] 48 (0, 0))
 hB : base ≤ P
 row : (Kd.int .i64).R 3 w base (fun _ => True) u ats
theorem AtS.lt {w : World} {base P : Nat} {u : Value} {ats : List Int} (h : AtS w base P u ats) : P < w.heap.size := blk_lt h.box
theorem AtS.below {w w1 : World} {base P : Nat} {u : Value} {ats : List Int} (h : AtS w base P u ats) (hb : Below w.heap.size w w1) : AtS w1 base P u ats := ⟨(hb.block P h.lt).trans h.box, h.hB, Kd.R_below h.row hb⟩
theorem own_ty {kd : IntKind} {e base : Nat} {w : World} {v : Value} {xs : List Int} (h : (Kd.int kd).R e w base (fun _ => True) v xs) {k : Nat} (hk : v.ownBlock = some k) : ∃ cs, w.heap[k]? = some (.cells cs e (0, 0)) := by
 obtain ⟨_, ho⟩ := Kd.R_own h
 exact own_typed ho k hk
theorem ty_ne {w : World} {k : Nat} {cs cs' : Array Value} {T T' : TypeId} (h : w.heap[k]? = some (.cells cs T (0, 0))) (h2 : w.heap[k]? = some (.cells cs' T' (0, 0))) : T = T' := by
 rw [h] at h2
 injection h2 with h2
 injection h2
/-- what writes the list of marks leaves the writer -/
theorem WS.mark {w w' : World} {base base2 B P : Nat} {v u : Value} {bs ats : List Int} (h : WS w base B v bs) (ha : AtS w base2 P u ats) (hk : Kp base2 w w' P u) : WS w' base B v bs := by
 refine ⟨(hk.keep B h.lt (fun e => ?_) (fun e => ?_)).trans h.box, h.hB, row_kept h.row (fun k hlt ho => hk.keep k hlt (fun e => ?_) (fun e => ?_))⟩
 ·subst e; exact absurd (ty_ne h.box ha.box) (by decide)
 ·obtain ⟨cs, hc⟩ := own_ty ha.row e; exact absurd (ty_ne h.box hc) (by decide)
 ·subst e; obtain ⟨cs, hc⟩ := own_ty h.row ho; exact absurd (ty_ne hc ha.box) (by decide)
 ·obtain ⟨cs, hc⟩ := own_ty h.row ho; obtain ⟨cs2, hc2⟩ := own_ty ha.row e; exact absurd (ty_ne hc hc2) (by decide)
/-- and the writer leaves the list of marks -/
theorem AtS.wrote {w w' : World} {base base2 B P : Nat} {v u : Value} {bs ats : List Int} (ha : AtS w base2 P u ats) (h : WS w base B v bs) (hk : Kp base w w' B v) : AtS w' base2 P u ats := by
 refine ⟨(hk.keep P ha.lt (fun e => ?_) (fun e => ?_)).trans ha.box, ha.hB, row_kept ha.row (fun k hlt ho => hk.keep k hlt (fun e => ?_) (fun e => ?_))⟩
 ·subst e; exact absurd (ty_ne h.box ha.box) (by decide)
 ·obtain ⟨cs, hc⟩ := own_ty h.row e; exact absurd (ty_ne hc ha.box) (by decide)
 ·subst e; obtain ⟨cs, hc⟩ := own_ty ha.row ho; exact absurd (ty_ne hc h.box) (by decide)
 ·obtain ⟨cs, hc⟩ := own_ty h.row e; obtain ⟨cs2, hc2⟩ := own_ty ha.row ho; exact absurd (ty_ne hc hc2) (by decide)
/-- a box of another type, kept while marks are written -/
theorem box_mark {w w' : World} {base P Q : Nat} {T : TypeId} {u : Value} {ats : List Int} {cs : Array Value} (ha : AtS w base P u ats) (hk : Kp base w w' P u) (h : w.heap[Q]? = some (.cells cs T (0, 0))) (h1 : T ≠ 48) (h2 : 3 ≠ T) : w'.heap[Q]? = some (.cells cs T (0, 0)) := by
 refine (hk.keep Q (blk_lt h) (fun e => ?_) (fun e => ?_)).trans h
 ·subst e; exact h1 (ty_ne h ha.box)
 ·obtain ⟨cs2, hc⟩ := own_ty ha.row e; exact h2 (ty_ne hc h)
theorem Wr.mark {base base2 B P : Nat} {w w1 w2 : World} {v v1 u : Value} {ats : List Int} (h : Wr base w w1 B v v1) (ha : AtS w1 base2 P u ats) (hk : Kp base2 w1 w2 P u) (hb : base ≤ w.heap.size) (hp : w.heap.size ≤ base2) : Wr base w w2 B v v1 := by
 refine ⟨⟨h.kp.low.trans (hk.low.mono (by omega)), fun k hlt hne hv => ?_⟩, h.fresh⟩
 have hs := h.kp.low.size
 refine (hk.keep k (by omega) (fun e => by have := ha.hB; omega) (fun e => ?_)).trans (h.kp.keep k hlt hne hv)
 obtain ⟨_, ho⟩ := Kd.R_own ha.row
 have := own_base ho k e
 omega
theorem at_step {w w1 : World} {base P : Nat} {u u1 : Value} {ats l : List Int} (h : AtS w base P u ats) (hR : (Kd.int .i64).R 3 w1 base (fun _ => True) u1 (ats ++ l)) (hb : Below base w w1) (hg : w.grownBy w1 u.ownBlock)
  (ha : u1.ownBlock = u.ownBlock ∨ ∃ b, u1.ownBlock = some b ∧ w.heap.size ≤ b) : AtS (w1.setCell ⟨P, 0, none⟩ u1) base P u1 (ats ++ l) ∧ Wr base w (w1.setCell ⟨P, 0, none⟩ u1) P u u1 := by
 have hbox : w1.heap[P]? = some (.cells #[u] 48 (0, 0)) := (hg.block P h.lt (Kd.R_ne h.row h.box (by decide))).trans h.box
 refine ⟨⟨?_, h.hB, Kd.R_set hR hbox (by intro q hq; have : q = 3 := (by simpa [Kd.int, Kd.scalar] using hq); omega) 0 u1⟩, ⟨⟨hb.setCell h.hB _, fun k hk hne hv => ?_⟩, ?_⟩⟩
 ·simp [World.setCell, Array.getElem?_modify, hbox]
 ·rw [Below.heap_setCell w1 ⟨P, 0, none⟩ _ k hne]
  exact hg.block k hk (fun e => hv e.symm)
 ·rcases ha with e | ⟨b, e, hlt⟩
  ·exact .inl e
  ·exact .inr (fun k hk => by rw [e] at hk; injection hk with hk; omega)
set_option maxRecDepth 1000000 in
set_option maxHeartbeats 4000000 in
theorem mark_calls (B base base2 P Q : Nat) (v u : Value) (bs ats : List Int) (w : World) (hW : WS w base B v bs) (ha : AtS w base2 P u ats) (hq : w.heap[Q]? = some (.cells #[.pointer (some ⟨B, 0, none⟩)] 57 (0, 0))) (hn : ats.length ≤ 100) :
  Calls Try.prog 67 #[.pointer (some ⟨P, 0, none⟩), .pointer (some ⟨Q, 0, none⟩)] w fun e w' => ∃ u', e = .returned (.tuple #[]) ∧ AtS w' base2 P u' (ats ++ [(bs.length : Int)]) ∧ Kp base2 w w' P u := by
 have HW := Aside0.mk hW
 have HA := Aside0.mk ha
 have HN := Aside0.mk hn
 obtain ⟨A1, c1, hv, hc1, hC1⟩ := Kd.R_reads hW.row
 have p0 : w.cell? ⟨P, 0, none⟩ = some u := by have := ha.box; simp [World.cell?, this]
 have q0 : w.cell? ⟨Q, 0, none⟩ = some (.pointer (some ⟨B, 0, none⟩)) := by simp [World.cell?, hq]
 have b0 : w.cell? ⟨B, 0, none⟩ = some (.slice A1 bs.length c1) := by have := hW.box; simp [World.cell?, this, hv]
 obtain ⟨A2, n2, c2, hu⟩ : ∃ A n c, u = .slice A n c := (by obtain ⟨A, c, h⟩ := Kd.R_slice ha.row; exact ⟨A, _, c, h⟩)
 subst hu
 clear hW ha hq hn hv hc1 hC1
 go_enter Try.func67, Try.ntmps67
 refine start_ (n := 9) (S := fun w_ => Below w.heap.size w w_) (ds := [7, 8]) #[false, false, false, false, false, false, false, false, false] (by kernel_rfl) rfl rfl (drew_below w) (fun hHeld => ?_)
 have HH := Aside0.mk hHeld
 clear hHeld
 generalize w.drew = wv at HH ⊢
 refine take_ (i := 0) (N := some 2) (v := ?_) (a' := ?_) #[true, false, false, false, false, false, false, false, false] rfl rfl (by kernel_rfl) (fun _ _ _ h => h) (Or.inl ⟨by rfl, ?_⟩) HH.out ?_ ?_
 rotate_left
 ·rintro w_ s
  have p0 := (s.cell (World.block_lt_of_cell? w _ p0)).trans p0; have q0 := (s.cell (World.block_lt_of_cell? w _ q0)).trans q0; have b0 := (s.cell (World.block_lt_of_cell? w _ b0)).trans b0
  go_simp
  with_reducible rfl
 rotate_left
 ·simp only [Act.put, List.setIfInBounds_toArray, List.set_cons_zero, List.set_cons_succ, i64_w, i32_w]
  rfl
 refine take_ (i := 1) (N := some 3) (v := ?_) (a' := ?_) #[true, true, false, false, false, false, false, false, false] rfl rfl (by kernel_rfl) (fun _ _ _ h => h) (Or.inl ⟨by rfl, ?_⟩) HH.out ?_ ?_
 rotate_left
 ·rintro w_ s
  have p0 := (s.cell (World.block_lt_of_cell? w _ p0)).trans p0; have q0 := (s.cell (World.block_lt_of_cell? w _ q0)).trans q0; have b0 := (s.cell (World.block_lt_of_cell? w _ b0)).trans b0
  go_simp
  with_reducible rfl
 rotate_left
 ·simp only [Act.put, List.setIfInBounds_toArray, List.set_cons_zero, List.set_cons_succ, i64_w, i32_w]
  rfl
 refine pure_ (i := 2) (N := some 4) (v := ?_) (a' := ?_) #[true, true, true, false, false, false, false, false, false] rfl rfl (by kernel_rfl) (fun _ _ _ h => h) (Or.inl ⟨by rfl, ?_⟩) ?_ ?_
 rotate_left
 ·intro w_
  go_simp
  with_reducible rfl
 rotate_left
 ·simp only [Act.put, List.setIfInBounds_toArray, List.set_cons_zero, List.set_cons_succ, i64_w, i32_w]
  rfl
 refine pure_ (i := 3) (N := some 5) (v := ?_) (a' := ?_) #[true, true, true, true, false, false, false, false, false] rfl rfl (by kernel_rfl) (fun _ _ _ h => h) (Or.inl ⟨by rfl, ?_⟩) ?_ ?_
 rotate_left
 ·intro w_
  go_simp
  with_reducible rfl
 rotate_left
 ·simp only [Act.put, List.setIfInBounds_toArray, List.set_cons_zero, List.set_cons_succ, i64_w, i32_w]
  rfl
 refine take_ (i := 4) (N := some 6) (v := ?_) (a' := ?_) #[true, true, true, true, true, false, false, false, false] rfl rfl (by kernel_rfl) (fun _ _ _ h => h) (Or.inl ⟨by rfl, ?_⟩) HH.out ?_ ?_
 rotate_left
 ·rintro w_ s
  have p0 := (s.cell (World.block_lt_of_cell? w _ p0)).trans p0; have q0 := (s.cell (World.block_lt_of_cell? w _ q0)).trans q0; have b0 := (s.cell (World.block_lt_of_cell? w _ b0)).trans b0
  go_simp
  with_reducible rfl
 rotate_left
 ·simp only [Act.put, List.setIfInBounds_toArray, List.set_cons_zero, List.set_cons_succ, i64_w, i32_w]
  rfl
 refine pure_ (i := 5) (N := some 7) (v := ?_) (a' := ?_) #[true, true, true, true, true, true, false, false, false] rfl rfl (by kernel_rfl) (fun _ _ _ h => h) (Or.inl ⟨by rfl, ?_⟩) ?_ ?_
 rotate_left
 ·intro w_
  go_simp
  with_reducible rfl
 rotate_left
 ·simp only [Act.put, List.setIfInBounds_toArray, List.set_cons_zero, List.set_cons_succ, i64_w, i32_w]
  rfl
 refine one_ (i := 6) (N := some 8) #[true, true, true, true, true, true, true, false, false] rfl rfl (by kernel_rfl) (by decide) (fun K hK => ?_)
 go_simp
 refine hK.out _ _ (HH.out.alloc HH.out.size _) (fun _ => ?_)
 clear hK K
 refine last_ (i := 7) (N := some 9) #[true, true, true, true, true, true, true, true, false] rfl rfl (by kernel_rfl) (by decide) (fun K hK => ?_)
 have HAV := Aside0.mk (HA.out.below HH.out)
 refine Kd.R_append_step (Kd.int .i64) (w0 := wv) base2 (by rfl) (.tmp 2) (.tmp 8) 48 3 (.int .i64 0) 8 rfl Try.underlying48 info3 rfl (by decide) (by omega) (.slice A2 n2 c2) ats (bs.length : Int) [.int .i64 (bs.length : Int)] (fun _ => True) (fun _ => False) rfl rfl rfl (fun _ h => h.elim) (fun _ _ => trivial) HAV.out.row (Below.refl _ _) (by have := HAV.out.hB; have := HAV.out.lt; omega) ?hl ?_
 (case hl => have := HN.out; omega)
 intro v3 w3 HR3 HB3 HG3 HA3
 obtain ⟨A3, n3, c3, hv3⟩ : ∃ A n c, v3 = .slice A n c := (by obtain ⟨A, c, h⟩ := Kd.R_slice HR3; exact ⟨A, _, c, h⟩)
 subst hv3
 have HP3 := Aside0.mk (at_step HAV.out HR3 HB3 HG3 HA3)
 have hbox3 := (HG3.block P HAV.out.lt (Kd.R_ne HAV.out.row HAV.out.box (by decide))).trans HAV.out.box
 have hcell3 : w3.cell? ⟨P, 0, none⟩ = some (.slice A2 n2 c2) := by simp [World.cell?, hbox3]
 have hfr3 : w3.frozen? ⟨P, 0, none⟩ = false := by simp [World.frozen?, hbox3]
 clear HR3 HB3 HG3 HA3 hbox3
 refine hK.out _ _ ?_
 clear hK K
 refine norm_ (a' := ?_) ?_ ?_
 rotate_left
 ·show Act.put _ (some 9) _ = _
  simp only [Act.put, List.setIfInBounds_toArray, List.set_cons_zero, List.set_cons_succ, i64_w, i32_w]
  rfl
 refine last_ (i := 8) (N := none) #[true, true, true, true, true, true, true, true, true] rfl rfl (by kernel_rfl) (by decide) (fun K hK => ?_)
 go_simp
 refine hK.out _ _ ?_
 clear hK K
 refine done_ (by kernel_rfl) ?_
 have HK := Aside0.mk (show Kp base2 w (w3.setCell ⟨P, 0, none⟩ (.slice A3 n3 c3)) P (.slice A2 n2 c2) from ((Wr.below HH.out (by have := HA.out.hB; have := HA.out.lt; omega)).trans HP3.out.2 (by have := HA.out.hB; have := HA.out.lt; omega)).kp)
 have HF := Aside0.mk HP3.out.1
 clear HP3
 go_end0
 exact ⟨_, rfl, HF.out, HK.out⟩
end Go.Proofs.Ytbgcemijihpakaa.XA
