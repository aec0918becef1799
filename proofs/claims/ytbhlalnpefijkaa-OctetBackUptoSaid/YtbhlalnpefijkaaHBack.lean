/- OctetBack: the walk through the statement's own code. -/
import Derived.Test.YtbhlalnpefijkaaHRt
import Derived.Test.YtbhlalnpefijkaaHOpen
import Derived.Deep.RegionHeld3
namespace Go.Proofs.Ytbhlalnpefijkaa.XC
set_option linter.unusedVariables false
set_option linter.unusedSimpArgs false
open Go.RowKit Go.Proofs.YtbhlalnpefijkaaW.PrintWords Go.Proofs.YtbhlalnpefijkaaW.PrintLast Go.Proofs.YtbhlalnpefijkaaW.PrintMore

structure Pc where
  k : Int
  n : Int
  v : Int
  s : ByteArray
def Pc.cs (p : Pc) : List Value := [.int .i64 p.k, .int .i64 p.n, .int .u64 p.v, .string p.s]
/-- a piece, as its four cells lie -/
def pcK : Kd Pc where
  sz := 4
  E := []
  K := fun _ x cs => cs = x.cs
  M := fun _ _ _ x cs => cs = x.cs
  K_len := fun h => by rw [h]; rfl
  K_one := fun h u hu => by
    rw [h] at hu
    simp only [Pc.cs, List.mem_cons, List.not_mem_nil, or_false] at hu
    rcases hu with rfl | rfl | rfl | rfl <;> rfl
  K_below := fun _ h => h
  K_of_M := fun h => h
  M_mono := fun _ h => h
  M_bound := fun h => h
  M_move := fun _ h => h
  M_lower := fun _ h => h
theorem info45 : (Try.prog.info? 45).map (fun i => (i.zero, i.size, i.bytes)) = some (some (.agg #[.int .i64 0, .int .i64 0, .int .u64 0, .string ⟨#[]⟩]), 4, 40) := by kernel_rfl
theorem cell_spot {w : World} {a : Addr} {v : Value} (h : w.cell? a = some v) : w.cell? ⟨a.block, a.off, none⟩ = some v := by
  unfold World.cell? at h ⊢
  show (match w.heap[a.block]? with | some (.cells c _ _) => if (none : Option Nat).isSome then none else c[a.off]? | _ => none) = some v
  revert h
  rcases w.heap[a.block]? with _ | o
  · simp
  · cases o <;> simp
theorem cell_off {w : World} {a : Addr} {k j : Nat} {v : Value} (h : w.cell? (a.add (k + j)) = some v) : w.cell? ⟨(a.add k).block, (a.add k).off + j, none⟩ = some v := by
  have e : ∀ i, (a.add i).block = a.block ∧ (a.add i).off = a.off + i := fun i => by unfold Addr.add; split <;> simp_all
  have h := cell_spot h
  rw [(e (k + j)).1, (e (k + j)).2] at h
  rw [(e k).1, (e k).2, Nat.add_assoc]
  exact h
/-- the cells of an element -/
structure PcAt (w : World) (ad : Addr) (i : Nat) (p : Pc) : Prop where
  x0 : w.cell? (ad.add (i * 4)) = some (.int .i64 p.k)
  y0 : w.cell? ⟨(ad.add (i * 4)).block, (ad.add (i * 4)).off, none⟩ = some (.int .i64 p.k)
  x1 : w.cell? ⟨(ad.add (i * 4)).block, (ad.add (i * 4)).off + 1, none⟩ = some (.int .i64 p.n)
  x2 : w.cell? ⟨(ad.add (i * 4)).block, (ad.add (i * 4)).off + 2, none⟩ = some (.int .u64 p.v)
  x3 : w.cell? ⟨(ad.add (i * 4)).block, (ad.add (i * 4)).off + 3, none⟩ = some (.string p.s)
theorem PcAt.below {w w1 : World} {ad : Addr} {i : Nat} {p : Pc} (h : PcAt w ad i p) (hB : Below w.heap.size w w1) : PcAt w1 ad i p :=
  ⟨pw_cell_below hB h.x0, pw_cell_below hB h.y0, pw_cell_below hB h.x1, pw_cell_below hB h.x2, pw_cell_below hB h.x3⟩
theorem PcAt.nv {w : World} {ad : Addr} {i : Nat} {p : Pc} (h : PcAt w ad i p) : w.cell? ⟨(ad.add (i * 4)).block, (ad.add (i * 4)).off + 1, none⟩ = some (.int .i64 p.n) ∧ w.cell? ⟨(ad.add (i * 4)).block, (ad.add (i * 4)).off + 2, none⟩ = some (.int .u64 p.v) := ⟨h.x1, h.x2⟩
theorem pc_at {w : World} {A : Option Addr} {n : Nat} {ps : List Pc} (h : pcK.C w A n ps) (i : Nat) (p : Pc) (hi : ps[i]? = some p) :
    ∃ ad, A = some ad ∧ PcAt w ad i p := by
  have hl : i < ps.length := (List.getElem?_eq_some_iff.mp hi).1
  obtain ⟨ad, e, hc⟩ := h.2.2 (by have := h.1; omega)
  obtain ⟨c, _, hk, hcell⟩ := hc i p hi
  have hk : c = p.cs := hk
  subst hk
  exact ⟨ad, e, hcell 0 _ rfl, cell_spot (hcell 0 _ rfl), cell_off (hcell 1 _ rfl), cell_off (hcell 2 _ rfl), cell_off (hcell 3 _ rfl)⟩

theorem pc_atR {w : World} {b : Nat} {ok : Nat → Prop} {ad : Addr} {m c : Nat} {ps : List Pc} (h : pcK.R 45 w b ok (.slice (some ad) m c) ps) (i : Nat) (p : Pc) (hi : ps[i]? = some p) : PcAt w ad i p := by
  obtain ⟨A, c', e, _, hC⟩ := Kd.R_reads h
  injection e with e
  subst e
  obtain ⟨ad', e, h⟩ := pc_at hC i p hi
  injection e with e
  exact e ▸ h

variable (num : Int → Int → List Int × Int) (txt : ByteArray → List Int × Int)
/-- what writing a piece answers -/
def resP (p : Pc) : List Int × Int := if p.k = 1 then num p.v p.n else txt p.s
def keptP (ps : List Pc) : List Pc := ps.filter fun p => (resP num txt p).2 == 0
def bytesP (ps : List Pc) : List Int := (ps.map fun p => (resP num txt p).1).flatten
theorem kept_snoc (ps : List Pc) (k : Nat) (h : k < ps.length) (c : (resP num txt ps[k]).2 = 0) : keptP num txt (ps.take (k + 1)) = keptP num txt (ps.take k) ++ [ps[k]] := by
  rw [List.take_succ_eq_append_getElem h, keptP, List.filter_append, List.filter_cons_of_pos (by simp [c])]
  rfl
theorem kept_skip (ps : List Pc) (k : Nat) (h : k < ps.length) (c : (resP num txt ps[k]).2 ≠ 0) : keptP num txt (ps.take (k + 1)) = keptP num txt (ps.take k) := by
  rw [List.take_succ_eq_append_getElem h, keptP, List.filter_append, List.filter_cons_of_neg (by simp [c])]
  simp [keptP]
theorem bytes_snoc (ps : List Pc) (p : Pc) : bytesP num txt (ps ++ [p]) = bytesP num txt ps ++ (resP num txt p).1 := by simp [bytesP]
theorem bytes_drop (ks : List Pc) (k : Nat) (h : k < ks.length) : bytesP num txt (ks.drop k) = (resP num txt ks[k]).1 ++ bytesP num txt (ks.drop (k + 1)) := by
  unfold bytesP
  rw [List.drop_eq_getElem_cons h, List.map_cons, List.flatten_cons]
theorem pc_self {w : World} {b : Nat} {ok : Nat → Prop} {u : Value} {xs : List Pc} (h : pcK.R 45 w b ok u xs) : pcK.R 45 w b (fun g => u.ownBlock = some g) u xs := ⟨fun _ hk => hk, h.2⟩
theorem u8_self {w : World} {b : Nat} {ok : Nat → Prop} {u : Value} {xs : List Int} (h : (Kd.int .u8).R 5 w b ok u xs) : (Kd.int .u8).R 5 w b (fun g => u.ownBlock = some g) u xs := ⟨fun _ hk => hk, h.2⟩
theorem pc_true {w : World} {b : Nat} {ok : Nat → Prop} {u : Value} {xs : List Pc} (h : pcK.R 45 w b ok u xs) : pcK.R 45 w b (fun _ => True) u xs := ⟨fun _ _ => trivial, h.2⟩
theorem u8_true {w : World} {b : Nat} {ok : Nat → Prop} {u : Value} {xs : List Int} (h : (Kd.int .u8).R 5 w b ok u xs) : (Kd.int .u8).R 5 w b (fun _ => True) u xs := ⟨fun _ _ => trivial, h.2⟩
theorem pc_lt {w : World} {b : Nat} {ok : Nat → Prop} {u : Value} {xs : List Pc} (h : pcK.R 45 w b ok u xs) (k : Nat) (hk : u.ownBlock = some k) : k < w.heap.size := by
  obtain ⟨_, inner, ho, _⟩ := h
  exact own_lt ho k hk
theorem u8_lt {w : World} {b : Nat} {ok : Nat → Prop} {u : Value} {xs : List Int} (h : (Kd.int .u8).R 5 w b ok u xs) (k : Nat) (hk : u.ownBlock = some k) : k < w.heap.size := by
  obtain ⟨_, inner, ho, _⟩ := h
  exact own_lt ho k hk
/-- behind an append to the bytes: the pieces are as they were, and the two rows are apart -/
theorem two_a {w w1 : World} {b : Nat} {v v1 u : Value} {ks : List Pc} (hk : pcK.R 45 w b (fun _ => True) u ks) (hne : ∀ g, v.ownBlock = some g → u.ownBlock ≠ some g) (hg : w.grownBy w1 v.ownBlock) (hat : v1.ownBlock = v.ownBlock ∨ ∃ b, v1.ownBlock = some b ∧ w.heap.size ≤ b) :
    pcK.R 45 w1 b (fun _ => True) u ks ∧ ∀ g, v1.ownBlock = some g → u.ownBlock ≠ some g := by
  refine ⟨pc_true (Kd.R_grown (pc_self hk) hg (fun k hk e => hne k e.symm hk)), fun g hv hu => ?_⟩
  rcases hat with e | ⟨b', e, hle⟩
  · exact hne g (by rw [← e]; exact hv) hu
  · have h1 := pc_lt hk g hu
    rw [e] at hv
    injection hv with hv
    omega
theorem two_b {w w1 : World} {b : Nat} {u u1 v : Value} {l : List Int} (hk : (Kd.int .u8).R 5 w b (fun _ => True) v l) (hne : ∀ g, v.ownBlock = some g → u.ownBlock ≠ some g) (hg : w.grownBy w1 u.ownBlock) (hat : u1.ownBlock = u.ownBlock ∨ ∃ b, u1.ownBlock = some b ∧ w.heap.size ≤ b) :
    (Kd.int .u8).R 5 w1 b (fun _ => True) v l ∧ ∀ g, v.ownBlock = some g → u1.ownBlock ≠ some g := by
  refine ⟨u8_true (Kd.R_grown (u8_self hk) hg (fun k hk e => hne k hk e.symm)), fun g hv hu => ?_⟩
  rcases hat with e | ⟨b', e, hle⟩
  · exact hne g hv (by rw [← e]; exact hu)
  · have h1 := u8_lt hk g hv
    rw [e] at hu
    injection hu with hu
    omega
theorem bytes_mem (ks : List Pc) (k : Nat) (x : Int) (h : x ∈ bytesP num txt (ks.drop k)) : x ∈ bytesP num txt ks := by
  have e : bytesP num txt ks = bytesP num txt (ks.take k) ++ bytesP num txt (ks.drop k) := by
    unfold bytesP
    rw [← List.flatten_append, ← List.map_append, List.take_append_drop]
  rw [e]
  exact List.mem_append_right _ h
theorem only_to {w0 w w' : World} {b B : Nat} (h : Below b w0 w) (hg : RdOnly w w' B) (hb : b ≤ B) (hs : b ≤ w.heap.size) : Below b w0 w' := h.grown hg hs (fun k hk => by injection hk with hk; omega)
theorem number_calls' (B base : Nat) (bs : List Int) (n : Int) (w : World) (h : RdSt w base B bs) (hb : ∀ x ∈ bs, 0 ≤ x ∧ x ≤ 255) (v er : Int) (bs' : List Int) (hr : numR bs n = (v, er, bs')) :
    Calls Try.prog 25 #[.pointer (some ⟨B, 0, none⟩), .int .i64 n] w fun e w' => e = .returned (.tuple #[.int .u64 v, .int .i64 er]) ∧ RdSt w' base B bs' ∧ RdOnly w w' B := by
  have := number_calls B base bs n w h hb
  rw [hr] at this
  exact this
set_option maxRecDepth 1000000 in
set_option maxHeartbeats 2000000 in
theorem back_walk (w : World) (A0 : Option Addr) (c0 : Nat) (ps : List Pc) (hC : pcK.C w A0 ps.length ps) (hc : ps.length ≤ c0) (hn : ps.length ≤ 1048576) (num : Int → Int → List Int × Int) (txt : ByteArray → List Int × Int)
    (hnum : ∀ v n, octet_Number.f 20 v n = some (num v n)) (htxt : ∀ p ∈ ps, octet_Text.f p.s = some (txt p.s)) (hlen : ∀ k, (bytesP num txt (keptP num txt (ps.take k))).length ≤ 4194304)
    (hread : ∀ p ∈ keptP num txt ps, ∀ r, if p.k = 1 then numR ((resP num txt p).1 ++ r) p.n = (p.v, 0, r) else textR ((resP num txt p).1 ++ r) = (p.s, 0, r)) (hb : ∀ x ∈ bytesP num txt (keptP num txt ps), 0 ≤ x ∧ x ≤ 255) :
    Calls Try.prog 6 #[.slice A0 ps.length c0] w fun e w' => e = .returned (.bool true) ∧ Below w.heap.size w w' := by
  have HC0 := Aside0.mk hC
  have HN := Aside0.mk hnum
  have HT := Aside0.mk htxt
  have HL := Aside0.mk hlen
  have HRD := Aside0.mk hread
  have HBY := Aside0.mk hb
  have HKL := Aside0.mk (show ∀ k, (keptP num txt (ps.take k)).length ≤ ps.length from fun k => Nat.le_trans (List.length_filter_le _ _) (by rw [List.length_take]; omega))
  have HNN := Aside0.mk hn
  clear hC hnum htxt hlen hread hb
  go_enter Try.func6, Try.ntmps6
  go_wp2_with fail
  go_loopw [3, 4, 5] (fun v u i wr => ∃ k : Nat, k ≤ ps.length ∧ i = .int .i64 k ∧ Aside0 ((Kd.int .u8).R 5 wr w.heap.size (fun _ => True) v (bytesP num txt (keptP num txt (ps.take k)))) ∧ Aside0 (pcK.R 45 wr w.heap.size (fun _ => True) u (keptP num txt (ps.take k))) ∧ Aside0 (∀ g, v.ownBlock = some g → u.ownBlock ≠ some g) ∧ Aside0 (Below w.heap.size w wr)) (fun _ _ i _ => ps.length - (intOf i).toNat)
  case atStart => exact ⟨0, by omega, rfl, ⟨Kd.R_nil _ _ _ _ _⟩, ⟨Kd.R_nil _ _ _ _ _⟩, ⟨fun g hg => by simp [Value.ownBlock] at hg⟩, ⟨Below.refl _ _⟩⟩
  case round =>
    obtain ⟨k, hk, rfl, HR, HK, HNE, HB⟩ := hrel
    by_cases hlt : k < ps.length
    · have hd : decide ((k : Int) < (ps.length : Int)) = true := decide_eq_true (by omega)
      have hpk : ps[k]? = some ps[k] := List.getElem?_eq_getElem hlt
      have hmem : ps[k] ∈ ps := List.getElem_mem hlt
      have HLT := Aside0.mk (Nat.succ_le_of_lt hlt)
      obtain ⟨ad, e1, hat⟩ := pc_at HC0.out k _ hpk
      cases e1
      have HM := Aside0.mk hmem
      have hkc := kept_snoc num txt ps k hlt
      have hks := kept_skip num txt ps k hlt
      clear hpk hmem
      generalize hp : ps[k] = p at *
      clear hp
      have HKC := Aside0.mk hkc
      have HKS := Aside0.mk hks
      have HA := Aside0.mk hat
      clear hat hkc hks
      have HLk := Aside0.mk (HL.out (k + 1))
      have HKk := Aside0.mk (HKL.out (k + 1))
      obtain ⟨x0, y0, x1, x2, x3⟩ := HA.out.below HB.out
      go_wp2_with fail
      obtain ⟨tl, te, ht⟩ : ∃ tl te, txt p.s = (tl, te) := ⟨_, _, rfl⟩
      have HTx := HT.out p HM.out
      rw [ht] at HTx
      have HTE := Aside0.mk ht
      clear ht
      refine (octet_Text.calls p.s tl te _ HTx).mono ?_
      rintro e w1 ⟨v1, rfl, R1, B1⟩
      obtain ⟨At, ct, rfl⟩ := Kd.R_slice R1
      have H1 := Aside0.mk (Kd.R_lower R1 HB.out.size)
      have HB1 := Aside0.mk (HB.out.trans (B1.mono HB.out.size))
      have HRa := Aside0.mk (Kd.R_below HR.out B1)
      have HKa := Aside0.mk (Kd.R_below HK.out B1)
      clear x0 y0 x1 x2 x3 HTx R1 B1 HR HK HB
      obtain ⟨x0, y0, x1, x2, x3⟩ := HA.out.below HB1.out
      by_cases c1 : p.k = 1
      · have c1b : (p.k == 1) = true := by simp [c1]
        have HRES := Aside0.mk (show resP num txt p = num p.v p.n by unfold resP; rw [if_pos c1])
        clear c1
        obtain ⟨bl, be, hnm⟩ : ∃ nl ne, num p.v p.n = (nl, ne) := ⟨_, _, rfl⟩
        have HNx := HN.out p.v p.n
        rw [hnm] at HNx HRES
        clear hnm
        go_wp2_with fail
        go_region_held3 (fun w' => w'.cell? ⟨(ad.add (k * 4)).block, (ad.add (k * 4)).off + 1, none⟩ = some (.int .i64 p.n) ∧ w'.cell? ⟨(ad.add (k * 4)).block, (ad.add (k * 4)).off + 2, none⟩ = some (.int .u64 p.v)) (first | exact (HA.out.below (below_drew1 HB1.out)).nv | exact (HA.out.below ((below_drew1 HB1.out).trans (B2.mono HB1.out.size))).nv) (first | (go_at_call 12; refine (octet_Number.calls 20 p.v p.n bl be _ HNx).mono ?_; rintro e w2 ⟨v2, rfl, R2, B2⟩))
        have H2 := Aside0.mk (Kd.R_lower R2 (show w.heap.size ≤ w1.drew.heap.size from HB1.out.size))
        have HBb := Aside0.mk ((below_drew1 HB1.out).trans (B2.mono HB1.out.size))
        have HRb := Aside0.mk (Kd.R_below (Kd.R_below HRa.out (below_drew1 (Below.refl _ _))) B2)
        have HKb := Aside0.mk (Kd.R_below (Kd.R_below HKa.out (below_drew1 (Below.refl _ _))) B2)
        obtain ⟨Ax, cx, ex⟩ := Kd.R_slice R2
        subst ex
        clear R2 B2 HRa HKa HB1 H1 HNx c1b x0 y0 x1 x2 x3 HTE
        obtain ⟨_, hxc, hxC⟩ := Kd.R_reads' H2.out
        have HxC := Aside0.mk hxC
        clear hxC
        by_cases c2 : be = 0
        · subst c2
          have hres2 : (resP num txt p).2 = 0 := by rw [HRES.out]
          have HK2 := Aside0.mk (HKC.out hres2)
          have HBY2 := Aside0.mk (show bytesP num txt (keptP num txt (ps.take k)) ++ bl = bytesP num txt (keptP num txt (ps.take (k + 1))) by rw [HK2.out, bytes_snoc, HRES.out])
          have HLE := Aside0.mk (show (bytesP num txt (keptP num txt (ps.take k))).length + bl.length ≤ 4194304 by have := HLk.out; rw [← HBY2.out, List.length_append] at this; exact this)
          have HLE2 := Aside0.mk (show (keptP num txt (ps.take k)).length + 1 ≤ 1048576 by have := HKk.out; rw [HK2.out, List.length_append] at this; have := HNN.out; simp at *; omega)
          clear hres2
          go_wp2_with (first | ((with_reducible refine gate_builtin (b := .append) (xs := #[.tmp 51, .tmp 52]) rfl ?_); at_builtin; refine Kd.R_append_row (w0 := w) (Value.int .u8) (0 : Int) w.heap.size rfl _ _ 23 5 (.int .u8 0) 1 rfl (by kernel_rfl) rd_info5 rfl (by omega) _ (bytesP num txt (keptP num txt (ps.take k))) bl Ax bl.length cx (fun _ => True) rfl rfl (fun _ _ => trivial) HRb.out HxC.out HBb.out HBb.out.size ?hl ?_; (case hl => have := HLE.out; omega); intro v3 w3 HR3 HB3 HG3 HA3; obtain ⟨hk3, hne3⟩ := two_a HKb.out HNE.out HG3 HA3; rw [HBY2.out] at HR3; have HRc := Aside0.mk HR3; have HBc := Aside0.mk HB3; have HKc := Aside0.mk hk3; have HNc := Aside0.mk hne3; clear HR3 HB3 HG3 HA3 hk3 hne3; obtain ⟨x0, y0, x1, x2, x3⟩ := HA.out.below HBc.out) | ((with_reducible refine gate_builtin (b := .append) (xs := #[.tmp 54, .tmp 59]) rfl ?_); at_builtin; refine Kd.R_append pcK (w0 := w) w.heap.size rfl (.tmp 54) (.tmp 59) 43 45 (.agg #[.int .i64 0, .int .i64 0, .int .u64 0, .string ⟨#[]⟩]) 40 rfl Try.underlying43 info45 rfl (by decide) (by omega) _ (keptP num txt (ps.take k)) p p.cs (fun _ => True) (fun _ => False) rfl rfl rfl (fun _ h => h.elim) (fun _ _ => trivial) HKc.out HBc.out HBc.out.size ?hl ?_; (case hl => have := HLE2.out; omega); intro v4 w4 HR4 HB4 HG4 HA4; obtain ⟨hk4, hne4⟩ := two_b HRc.out HNc.out HG4 HA4; rw [← HK2.out] at HR4; have HKd := Aside0.mk HR4; have HBd := Aside0.mk HB4; have HRd := Aside0.mk hk4; have HNd := Aside0.mk hne4; clear HR4 HB4 HG4 HA4 hk4 hne4))
          go_roundw
          case rel => exact ⟨k + 1, HLT.out, by have := HLT.out; have := HNN.out; go_num, HRd, HKd, HNd, HBd⟩
          case measure => have := HLT.out; have := HNN.out; simp [intOf]; omega
        · have c2b : (be != 0) = true := by simp [c2]
          have hres2 : (resP num txt p).2 ≠ 0 := by rw [HRES.out]; exact c2
          have HK2 := Aside0.mk (HKS.out hres2)
          clear hres2 c2
          go_wp2_with fail
          go_roundw
          case rel => exact ⟨k + 1, HLT.out, by have := HLT.out; have := HNN.out; go_num, ⟨by rw [HK2.out]; exact HRb.out⟩, ⟨by rw [HK2.out]; exact HKb.out⟩, HNE, HBb⟩
          case measure => have := HLT.out; have := HNN.out; simp [intOf]; omega
      · have c1b : (p.k == 1) = false := by simp [c1]
        have HRES := Aside0.mk (show resP num txt p = txt p.s by unfold resP; rw [if_neg c1])
        rw [HTE.out] at HRES
        clear c1 HTE
        obtain ⟨_, hxc, hxC⟩ := Kd.R_reads' H1.out
        have HxC := Aside0.mk hxC
        clear hxC
        by_cases c2 : te = 0
        · subst c2
          have hres2 : (resP num txt p).2 = 0 := by rw [HRES.out]
          have HK2 := Aside0.mk (HKC.out hres2)
          have HBY2 := Aside0.mk (show bytesP num txt (keptP num txt (ps.take k)) ++ tl = bytesP num txt (keptP num txt (ps.take (k + 1))) by rw [HK2.out, bytes_snoc, HRES.out])
          have HLE := Aside0.mk (show (bytesP num txt (keptP num txt (ps.take k))).length + tl.length ≤ 4194304 by have := HLk.out; rw [← HBY2.out, List.length_append] at this; exact this)
          have HLE2 := Aside0.mk (show (keptP num txt (ps.take k)).length + 1 ≤ 1048576 by have := HKk.out; rw [HK2.out, List.length_append] at this; have := HNN.out; simp at *; omega)
          clear hres2
          go_wp2_with (first | ((with_reducible refine gate_builtin (b := .append) (xs := #[.tmp 51, .tmp 52]) rfl ?_); at_builtin; refine Kd.R_append_row (w0 := w) (Value.int .u8) (0 : Int) w.heap.size rfl _ _ 23 5 (.int .u8 0) 1 rfl (by kernel_rfl) rd_info5 rfl (by omega) _ (bytesP num txt (keptP num txt (ps.take k))) tl At tl.length ct (fun _ => True) rfl rfl (fun _ _ => trivial) HRa.out HxC.out HB1.out HB1.out.size ?hl ?_; (case hl => have := HLE.out; omega); intro v3 w3 HR3 HB3 HG3 HA3; obtain ⟨hk3, hne3⟩ := two_a HKa.out HNE.out HG3 HA3; rw [HBY2.out] at HR3; have HRc := Aside0.mk HR3; have HBc := Aside0.mk HB3; have HKc := Aside0.mk hk3; have HNc := Aside0.mk hne3; clear HR3 HB3 HG3 HA3 hk3 hne3; obtain ⟨x0, y0, x1, x2, x3⟩ := HA.out.below HBc.out) | ((with_reducible refine gate_builtin (b := .append) (xs := #[.tmp 54, .tmp 59]) rfl ?_); at_builtin; refine Kd.R_append pcK (w0 := w) w.heap.size rfl (.tmp 54) (.tmp 59) 43 45 (.agg #[.int .i64 0, .int .i64 0, .int .u64 0, .string ⟨#[]⟩]) 40 rfl Try.underlying43 info45 rfl (by decide) (by omega) _ (keptP num txt (ps.take k)) p p.cs (fun _ => True) (fun _ => False) rfl rfl rfl (fun _ h => h.elim) (fun _ _ => trivial) HKc.out HBc.out HBc.out.size ?hl ?_; (case hl => have := HLE2.out; omega); intro v4 w4 HR4 HB4 HG4 HA4; obtain ⟨hk4, hne4⟩ := two_b HRc.out HNc.out HG4 HA4; rw [← HK2.out] at HR4; have HKd := Aside0.mk HR4; have HBd := Aside0.mk HB4; have HRd := Aside0.mk hk4; have HNd := Aside0.mk hne4; clear HR4 HB4 HG4 HA4 hk4 hne4))
          go_roundw
          case rel => exact ⟨k + 1, HLT.out, by have := HLT.out; have := HNN.out; go_num, HRd, HKd, HNd, HBd⟩
          case measure => have := HLT.out; have := HNN.out; simp [intOf]; omega
        · have c2b : (te != 0) = true := by simp [c2]
          have hres2 : (resP num txt p).2 ≠ 0 := by rw [HRES.out]; exact c2
          have HK2 := Aside0.mk (HKS.out hres2)
          clear hres2 c2
          go_wp2_with fail
          go_roundw
          case rel => exact ⟨k + 1, HLT.out, by have := HLT.out; have := HNN.out; go_num, ⟨by rw [HK2.out]; exact HRa.out⟩, ⟨by rw [HK2.out]; exact HKa.out⟩, HNE, HB1⟩
          case measure => have := HLT.out; have := HNN.out; simp [intOf]; omega
    · have hd : decide ((k : Int) < (ps.length : Int)) = false := decide_eq_false (by omega)
      have hfin : ps.take k = ps := List.take_of_length_le (by omega)
      rw [hfin] at HR HK
      have HKn := Aside0.mk (show (keptP num txt ps).length ≤ ps.length from List.length_filter_le _ _)
      have HBL := Aside0.mk (show (bytesP num txt (keptP num txt ps)).length ≤ 4194304 by have := HL.out k; rw [hfin] at this; exact this)
      clear hfin HL HKL
      generalize hks : keptP num txt ps = ks at *
      clear hks
      obtain ⟨bs, hbs⟩ : ∃ bs, bytesP num txt ks = bs := ⟨_, rfl⟩
      have HBS := Aside0.mk hbs
      rw [hbs] at HR HBL
      clear hbs
      obtain ⟨Ab, cb, eb, hcb, Cb⟩ := Kd.R_reads HR.out
      subst eb
      obtain ⟨Ak, ck, ek⟩ := Kd.R_slice HK.out
      subst ek
      have Hcb := Aside0.mk hcb
      have HCb := Aside0.mk Cb
      clear hcb Cb
      go_wp2_with fail
      refine (newReader_calls Ab cb bs _ HCb.out Hcb.out (by have := HBL.out; omega)).mono ?_
      rintro e w1 ⟨B, rfl, S1, B1⟩
      obtain ⟨bb, HS⟩ : ∃ bb, Aside0 (RdSt w1 bb B (bytesP num txt (ks.drop 0))) := ⟨_, ⟨by rw [List.drop_zero, HBS.out]; exact S1⟩⟩
      have HBx := Aside0.mk (show wr.heap.size ≤ B from by obtain ⟨_, _, _, h, _⟩ := S1; exact h)
      have HKx := Aside0.mk (show pcK.R 45 w1 w.heap.size (fun g => g ≠ B) (.slice Ak ks.length ck) ks from Kd.R_mono (Kd.R_below (Kd.R_bound HK.out) B1) (fun g hg => by
        have h1 := HBx.out
        have h2 := hg.2.2.1
        omega))
      have HBB := Aside0.mk (HB.out.trans (B1.mono HB.out.size))
      have HWB := Aside0.mk (show w.heap.size ≤ B from Nat.le_trans HB.out.size HBx.out)
      clear S1 B1 HR HK HNE HB HCb Hcb HBL HBS
      have hkn := HKn.out
      go_wp2_with fail
      go_loopw [9] (fun i wq => ∃ j : Nat, j ≤ ks.length ∧ i = .int .i64 j ∧ Aside0 (RdSt wq bb B (bytesP num txt (ks.drop j))) ∧ Aside0 (pcK.R 45 wq w.heap.size (fun g => g ≠ B) (.slice Ak ks.length ck) ks) ∧ Aside0 (Below w.heap.size w wq)) (fun i _ => ks.length - (intOf i).toNat)
      case atStart => exact ⟨0, by omega, rfl, HS, HKx, HBB⟩
      case round =>
        clear HS HKx HBB
        obtain ⟨j, hj, rfl, HS, HKx, HBB⟩ := hrel
        by_cases hlt : j < ks.length
        · have hd2 : decide ((j : Int) < (ks.length : Int)) = true := decide_eq_true (by omega)
          have hpk : ks[j]? = some ks[j] := List.getElem?_eq_getElem hlt
          have hmem : ks[j] ∈ ks := List.getElem_mem hlt
          obtain ⟨Ak', ck', ee, _, hCk⟩ := Kd.R_reads HKx.out
          injection ee with ee1 ee3 ee2
          clear ee2 ee3
          subst ee1
          obtain ⟨ad, e1, ee4⟩ := pc_at hCk j _ hpk
          clear ee4
          subst e1
          have hat := pc_atR HKx.out j _ hpk
          have HX := Aside0.mk hpk
          have HJ := Aside0.mk (Nat.succ_le_of_lt hlt)
          have hdr := bytes_drop num txt ks j hlt
          have hrd := HRD.out ks[j] hmem (bytesP num txt (ks.drop (j + 1)))
          clear hpk hmem hCk
          generalize hp : ks[j] = p at *
          clear hp
          have HDR := Aside0.mk hdr
          have HRR := Aside0.mk hrd
          have HA := Aside0.mk hat
          have HBYj := Aside0.mk (show ∀ x ∈ bytesP num txt (ks.drop j), 0 ≤ x ∧ x ≤ 255 from fun x hx => HBY.out x (bytes_mem num txt ks j x hx))
          clear hat hdr hrd
          obtain ⟨x0, y0, x1, x2, x3⟩ := HA.out
          by_cases c1 : p.k = 1
          · have c1b : (p.k == 1) = true := by simp [c1]
            have hrr := HRR.out
            rw [if_pos c1, ← HDR.out] at hrr
            have HN1 := Aside0.mk (number_calls' B bb (bytesP num txt (ks.drop j)) p.n _ HS.out HBYj.out p.v 0 _ hrr)
            clear c1 hrr
            go_wp2_with fail
            refine HN1.out.mono ?_
            rintro e w2 ⟨rfl, S2, O2⟩
            have HS2 := Aside0.mk S2
            have HBc := Aside0.mk (only_to HBB.out O2 HWB.out HBB.out.size)
            have HK2 := Aside0.mk (Kd.R_grown HKx.out O2 (fun g hg e => by injection e with e; exact hg e))
            clear S2 O2 x0 y0 x1 x2 x3
            obtain ⟨x0, y0, x1, x2, x3⟩ := pc_atR HK2.out j _ HX.out
            have hvv : (p.v != p.v) = false := by simp
            go_wp2_with fail
            go_roundw
            case rel => exact ⟨j + 1, HJ.out, by go_num, HS2, HK2, HBc⟩
            case measure => have := HJ.out; simp [intOf]; omega
          · have c1b : (p.k == 1) = false := by simp [c1]
            have hrr := HRR.out
            rw [if_neg c1, ← HDR.out] at hrr
            have HN1 := Aside0.mk (text_calls B bb (bytesP num txt (ks.drop j)) _ HS.out HBYj.out p.s 0 _ hrr)
            clear c1 hrr
            go_wp2_with fail
            refine HN1.out.mono ?_
            rintro e w2 ⟨rfl, S2, O2⟩
            have HS2 := Aside0.mk S2
            have HBc := Aside0.mk (only_to HBB.out O2 HWB.out HBB.out.size)
            have HK2 := Aside0.mk (Kd.R_grown HKx.out O2 (fun g hg e => by injection e with e; exact hg e))
            clear S2 O2 x0 y0 x1 x2 x3
            obtain ⟨x0, y0, x1, x2, x3⟩ := pc_atR HK2.out j _ HX.out
            have hvv : (p.s.data != p.s.data) = false := bne_self_eq_false _
            go_wp2_with fail
            go_roundw
            case rel => exact ⟨j + 1, HJ.out, by go_num, HS2, HK2, HBc⟩
            case measure => have := HJ.out; simp [intOf]; omega
        · have hd2 : decide ((j : Int) < (ks.length : Int)) = false := decide_eq_false (by omega)
          have hnil : bytesP num txt (ks.drop j) = [] := by rw [List.drop_eq_nil_of_le (by omega)]; rfl
          rw [hnil] at HS
          clear hnil
          go_wp2_with fail
          refine (end_calls B bb [] _ HS.out).mono ?_
          rintro e w3 ⟨rfl, rfl⟩
          rw [show endE [] = 0 from rfl]
          go_wp2_with fail
          refine (left_calls B bb [] _ HS.out).mono ?_
          rintro e w4 ⟨rfl, rfl⟩
          go_wp2_with fail
          refine (tappetlaw01_heads.calls true _ rfl).mono ?_
          rintro e w5 ⟨rfl, B5⟩
          have HB5 := Aside0.mk (HBB.out.trans (B5.mono HBB.out.size))
          go_wp2_with fail
          go_ret
          exact ⟨rfl, HB5.out⟩
end Go.Proofs.Ytbhlalnpefijkaa.XC
