/- the document's names of each kind. -/
import Derived.Test.YthckjbmgeidkgaaDoorHSmall
import Derived.Deep.DeepCutAuto
import Derived.Test.YthckjbmgeidkgaaDoorHRB
namespace Go.Proofs.YthckjbmgeidkgaaDoor.XA
set_option linter.unusedVariables false
set_option linter.unusedSimpArgs false
open Go.RowKit Go.WideMaps Go.Maps Go.Proofs.YthckjbmgeidkgaaDoorW.PrintWords Go.Proofs.YthckjbmgeidkgaaDoorW.PrintLast Go.Proofs.YthckjbmgeidkgaaDoorW.PrintMore
def nmL (K : Kind) (c : S33) : List ByteArray := (List.range (K.n c)).map (K.nm c)
theorem nm_succ (f : Nat → ByteArray) (k : Nat) : (List.range (k + 1)).map f = (List.range k).map f ++ [f k] := by
  rw [List.range_succ, List.map_append]
  rfl
theorem nm_get (l : List ByteArray) : (List.range l.length).map (fun i => l.getD i ⟨#[]⟩) = l := by
  apply List.ext_getElem
  · simp
  · intro i h1 h2
    simp [h2]
def NamesOf (K : Kind) : Prop := ∀ (w : World) (V : CV) (c : S33), Cf w V c → Calls Tryd.prog 19 #[.agg (arr V c), .string K.word] w fun e w' => ∃ A cap, e = .returned (.slice A (K.n c) cap) ∧ K.n c ≤ cap ∧ Kd.string.C w' A (K.n c) (nmL K c) ∧ Below w.heap.size w w'
theorem one_name {w : World} {b : Nat} {s : ByteArray} (h : w.heap[b]? = some (.cells #[.string s] 9 (0, 0))) : Kd.string.C w (some ⟨b, 0, none⟩) 1 [s] :=
  tab_of2 (d := Kd.string) (cs := [.string s]) h rfl (by simp) (fun j p hj => by
    rcases j with _ | j
    · injection hj with hj
      subst hj
      exact ⟨_, rfl, rfl, fun i u hu => by rcases i with _ | i <;> first | exact hu | simp at hu⟩
    · simp at hj)
set_option maxRecDepth 1000000 in
set_option maxHeartbeats 4000000 in
theorem names0 : NamesOf kind0 := by
  intro w V c h
  have HC := Aside0.mk h
  have HX := Aside0.mk (At.made h)
  have HB := Aside0.mk (below_a w (.cells (arr V c) 33))
  have hbd := h.bd
  clear h
  unfold kind0 nmL
  go_enter Tryd.func19, Tryd.ntmps19
  unfold arr at *
  go_upto_region 1 with fail
  generalize w.alloc (.cells #[.string c.f0, .string c.f1.f0, .bool c.f1.f1, .bool c.f1.f2, .bool c.f1.f3, .bool c.f1.f4, .bool c.f1.f5, .bool c.f1.f6, .bool c.f1.f7, .bool c.f1.f8, .slice V.a10 c.f2.length V.k10, .slice V.a11 c.f3.length V.k11, .slice V.a12 c.f4.length V.k12, .slice V.a13 c.f5.length V.k13, .slice V.a14 c.f6.length V.k14, .slice V.a15 c.f7.length V.k15, .slice V.a16 c.f8.length V.k16, .slice V.a17 c.f9.length V.k17] 33) = w1 at *
  have q := HX.out.cell0
  go_wp2_with fail
  go_ret
  exact ⟨_, 1, rfl, Nat.le_refl 1, one_name (heap_alloc_new w1 (.cells #[.string c.f0] 9)), HB.out.trans ((below_a w1 _).mono HB.out.size)⟩
set_option maxRecDepth 1000000 in
set_option maxHeartbeats 4000000 in
theorem names1 : NamesOf kind1 := by
  intro w V c h
  have HC := Aside0.mk h
  have HX := Aside0.mk (At.made h)
  have HB := Aside0.mk (below_a w (.cells (arr V c) 33))
  have hbd := h.bd
  clear h
  unfold kind1 nmL
  go_enter Tryd.func19, Tryd.ntmps19
  unfold arr at *
  go_upto_region 1 with fail
  generalize w.alloc (.cells #[.string c.f0, .string c.f1.f0, .bool c.f1.f1, .bool c.f1.f2, .bool c.f1.f3, .bool c.f1.f4, .bool c.f1.f5, .bool c.f1.f6, .bool c.f1.f7, .bool c.f1.f8, .slice V.a10 c.f2.length V.k10, .slice V.a11 c.f3.length V.k11, .slice V.a12 c.f4.length V.k12, .slice V.a13 c.f5.length V.k13, .slice V.a14 c.f6.length V.k14, .slice V.a15 c.f7.length V.k15, .slice V.a16 c.f8.length V.k16, .slice V.a17 c.f9.length V.k17] 33) = w1 at *
  have q := HX.out.cell1
  go_wp2_with fail
  go_ret
  exact ⟨_, 1, rfl, Nat.le_refl 1, one_name (heap_alloc_new w1 (.cells #[.string c.f1.f0] 9)), HB.out.trans ((below_a w1 _).mono HB.out.size)⟩
set_option maxRecDepth 1000000 in
set_option maxHeartbeats 4000000 in
theorem names2 : NamesOf kind2 := by
  intro w V c h
  have HC := Aside0.mk h
  have HX := Aside0.mk (At.made h)
  have HB := Aside0.mk (below_a w (.cells (arr V c) 33))
  have hbd := h.bd
  clear h
  unfold kind2 nmL
  go_enter Tryd.func19, Tryd.ntmps19
  unfold arr at *
  go_upto_region 1 with fail
  generalize w.alloc (.cells #[.string c.f0, .string c.f1.f0, .bool c.f1.f1, .bool c.f1.f2, .bool c.f1.f3, .bool c.f1.f4, .bool c.f1.f5, .bool c.f1.f6, .bool c.f1.f7, .bool c.f1.f8, .slice V.a10 c.f2.length V.k10, .slice V.a11 c.f3.length V.k11, .slice V.a12 c.f4.length V.k12, .slice V.a13 c.f5.length V.k13, .slice V.a14 c.f6.length V.k14, .slice V.a15 c.f7.length V.k15, .slice V.a16 c.f8.length V.k16, .slice V.a17 c.f9.length V.k17] 33) = w1 at *
  have q := HX.out.cell10
  go_wp2_with fail
  go_ret
  exact ⟨_, _, rfl, HX.out.cf.ml, by show Kd.string.C w1 V.a10 c.f2.length ((List.range c.f2.length).map fun i => c.f2.getD i ⟨#[]⟩); rw [nm_get]; exact HX.out.cf.m, HB.out⟩
set_option maxRecDepth 1000000 in
set_option maxHeartbeats 4000000 in
theorem names3 : NamesOf kind3 := by
  intro w V c h
  have HC := Aside0.mk h
  have HX := Aside0.mk (At.made h)
  have HB := Aside0.mk (below_a w (.cells (arr V c) 33))
  have hbd := h.bd
  clear h
  unfold kind3 nmL
  go_enter Tryd.func19, Tryd.ntmps19
  unfold arr at *
  have hn := hbd.r
  clear hbd
  go_upto_region 1 with fail
  generalize w.alloc (.cells #[.string c.f0, .string c.f1.f0, .bool c.f1.f1, .bool c.f1.f2, .bool c.f1.f3, .bool c.f1.f4, .bool c.f1.f5, .bool c.f1.f6, .bool c.f1.f7, .bool c.f1.f8, .slice V.a10 c.f2.length V.k10, .slice V.a11 c.f3.length V.k11, .slice V.a12 c.f4.length V.k12, .slice V.a13 c.f5.length V.k13, .slice V.a14 c.f6.length V.k14, .slice V.a15 c.f7.length V.k15, .slice V.a16 c.f8.length V.k16, .slice V.a17 c.f9.length V.k17] 33) = w1 at *
  go_wp2_with fail
  go_loopw [5, 6] (fun u i wr => ∃ k : Nat, k ≤ c.f4.length ∧ i = .int .i64 k ∧ Aside0 (Kd.string.R 9 wr w.heap.size (fun g => g ≠ w.heap.size) u ((List.range k).map (fun i => (c.f4.getD i z65).f0))) ∧ Aside0 (At wr w.heap.size V c) ∧ Aside0 (Below w.heap.size w wr)) (fun _ i _ => c.f4.length - (intOf i).toNat)
  case atStart => exact ⟨0, by omega, rfl, ⟨Kd.R_nil _ _ _ _ _⟩, HX, HB⟩
  case round =>
    clear HX HB
    obtain ⟨k, hk, rfl, HR, HX, HB⟩ := hrel
    have q := HX.out.cell12
    by_cases hlt : k < c.f4.length
    · have hd : decide ((k : Int) < (c.f4.length : Int)) = true := decide_eq_true (by omega)
      have HLT := Aside0.mk (Nat.succ_le_of_lt hlt)
      obtain ⟨t, ad, ht, e, HU⟩ := res_at HX.out.cf.r k hlt
      have g0 := HU.g0
      rw [e] at q
      have HN := Aside0.mk (show (List.range (k + 1)).map (fun i => (c.f4.getD i z65).f0) = (List.range k).map (fun i => (c.f4.getD i z65).f0) ++ [t.f0] from by rw [nm_succ]; simp only [ht])
      have hkb : k + 1 ≤ 8796093022208 := by omega
      clear ht e HU
      generalize t.f0 = s at *
      go_wp2_with ((with_reducible refine gate_builtin (b := .append) (xs := #[.tmp 38, .tmp 45]) rfl ?_); at_builtin; refine Kd.R_append Kd.string (w0 := w) w.heap.size rfl (.tmp 38) (.tmp 45) 24 9 (.string ⟨#[]⟩) 16 rfl Tryd.underlying24 info9 rfl (by decide) (by decide) _ ((List.range k).map (fun i => (c.f4.getD i z65).f0)) s [.string s] (fun g => g ≠ w.heap.size) (fun _ => False) rfl rfl rfl (fun _ h => h.elim) (fun g hg e => by have := HX.out.lt; omega) HR.out HB.out HB.out.size ?hl ?_; (case hl => rw [List.length_map, List.length_range]; omega); intro v3 w3 HR3 HB3 HG3 HA3; have HX3 : At w3 w.heap.size V c := ⟨(HG3.block _ HX.out.lt (fun e => HR.out.1 _ e.symm rfl)).trans HX.out.box, HC.out.below HB3⟩; rw [← HN.out] at HR3; have HRc := Aside0.mk HR3; have HBc := Aside0.mk HB3; have HXc := Aside0.mk HX3; clear HR3 HB3 HG3 HA3 HX3)
      go_roundw
      case rel => exact ⟨k + 1, HLT.out, by go_num, HRc, HXc, HBc⟩
      case measure => have := HLT.out; simp [intOf]; omega
    · have hd : decide ((k : Int) < (c.f4.length : Int)) = false := decide_eq_false (by omega)
      obtain ⟨A, cap, rfl, hcap, hcc⟩ := Kd.R_reads HR.out
      have hlen : ((List.range k).map (fun i => (c.f4.getD i z65).f0)).length = c.f4.length := by rw [List.length_map, List.length_range]; omega
      rw [hlen] at hcap hcc ⊢
      have HCC := Aside0.mk (show Kd.string.C wr A c.f4.length ((List.range c.f4.length).map (fun i => (c.f4.getD i z65).f0)) from by rw [show c.f4.length = k by omega] at hcc ⊢; exact hcc)
      clear hlen hcc
      go_wp2_with fail
      go_ret
      exact ⟨A, cap, rfl, hcap, HCC.out, HB.out⟩
set_option maxRecDepth 1000000 in
set_option maxHeartbeats 4000000 in
theorem names4 : NamesOf kind4 := by
  intro w V c h
  have HC := Aside0.mk h
  have HX := Aside0.mk (At.made h)
  have HB := Aside0.mk (below_a w (.cells (arr V c) 33))
  have hbd := h.bd
  clear h
  unfold kind4 nmL
  go_enter Tryd.func19, Tryd.ntmps19
  unfold arr at *
  have hn := hbd.e
  clear hbd
  go_upto_region 1 with fail
  generalize w.alloc (.cells #[.string c.f0, .string c.f1.f0, .bool c.f1.f1, .bool c.f1.f2, .bool c.f1.f3, .bool c.f1.f4, .bool c.f1.f5, .bool c.f1.f6, .bool c.f1.f7, .bool c.f1.f8, .slice V.a10 c.f2.length V.k10, .slice V.a11 c.f3.length V.k11, .slice V.a12 c.f4.length V.k12, .slice V.a13 c.f5.length V.k13, .slice V.a14 c.f6.length V.k14, .slice V.a15 c.f7.length V.k15, .slice V.a16 c.f8.length V.k16, .slice V.a17 c.f9.length V.k17] 33) = w1 at *
  go_wp2_with fail
  go_loopw [5, 7] (fun u i wr => ∃ k : Nat, k ≤ c.f5.length ∧ i = .int .i64 k ∧ Aside0 (Kd.string.R 9 wr w.heap.size (fun g => g ≠ w.heap.size) u ((List.range k).map (fun i => (c.f5.getD i z53).f0))) ∧ Aside0 (At wr w.heap.size V c) ∧ Aside0 (Below w.heap.size w wr)) (fun _ i _ => c.f5.length - (intOf i).toNat)
  case atStart => exact ⟨0, by omega, rfl, ⟨Kd.R_nil _ _ _ _ _⟩, HX, HB⟩
  case round =>
    clear HX HB
    obtain ⟨k, hk, rfl, HR, HX, HB⟩ := hrel
    have q := HX.out.cell13
    by_cases hlt : k < c.f5.length
    · have hd : decide ((k : Int) < (c.f5.length : Int)) = true := decide_eq_true (by omega)
      have HLT := Aside0.mk (Nat.succ_le_of_lt hlt)
      obtain ⟨t, ad, ht, e, HU⟩ := evt_at HX.out.cf.e k hlt
      have g0 := HU.g0
      rw [e] at q
      have HN := Aside0.mk (show (List.range (k + 1)).map (fun i => (c.f5.getD i z53).f0) = (List.range k).map (fun i => (c.f5.getD i z53).f0) ++ [t.f0] from by rw [nm_succ]; simp only [ht])
      have hkb : k + 1 ≤ 8796093022208 := by omega
      clear ht e HU
      generalize t.f0 = s at *
      go_wp2_with ((with_reducible refine gate_builtin (b := .append) (xs := #[.tmp 56, .tmp 63]) rfl ?_); at_builtin; refine Kd.R_append Kd.string (w0 := w) w.heap.size rfl (.tmp 56) (.tmp 63) 24 9 (.string ⟨#[]⟩) 16 rfl Tryd.underlying24 info9 rfl (by decide) (by decide) _ ((List.range k).map (fun i => (c.f5.getD i z53).f0)) s [.string s] (fun g => g ≠ w.heap.size) (fun _ => False) rfl rfl rfl (fun _ h => h.elim) (fun g hg e => by have := HX.out.lt; omega) HR.out HB.out HB.out.size ?hl ?_; (case hl => rw [List.length_map, List.length_range]; omega); intro v3 w3 HR3 HB3 HG3 HA3; have HX3 : At w3 w.heap.size V c := ⟨(HG3.block _ HX.out.lt (fun e => HR.out.1 _ e.symm rfl)).trans HX.out.box, HC.out.below HB3⟩; rw [← HN.out] at HR3; have HRc := Aside0.mk HR3; have HBc := Aside0.mk HB3; have HXc := Aside0.mk HX3; clear HR3 HB3 HG3 HA3 HX3)
      go_roundw
      case rel => exact ⟨k + 1, HLT.out, by go_num, HRc, HXc, HBc⟩
      case measure => have := HLT.out; simp [intOf]; omega
    · have hd : decide ((k : Int) < (c.f5.length : Int)) = false := decide_eq_false (by omega)
      obtain ⟨A, cap, rfl, hcap, hcc⟩ := Kd.R_reads HR.out
      have hlen : ((List.range k).map (fun i => (c.f5.getD i z53).f0)).length = c.f5.length := by rw [List.length_map, List.length_range]; omega
      rw [hlen] at hcap hcc ⊢
      have HCC := Aside0.mk (show Kd.string.C wr A c.f5.length ((List.range c.f5.length).map (fun i => (c.f5.getD i z53).f0)) from by rw [show c.f5.length = k by omega] at hcc ⊢; exact hcc)
      clear hlen hcc
      go_wp2_with fail
      go_ret
      exact ⟨A, cap, rfl, hcap, HCC.out, HB.out⟩
set_option maxRecDepth 1000000 in
set_option maxHeartbeats 4000000 in
theorem names5 : NamesOf kind5 := by
  intro w V c h
  have HC := Aside0.mk h
  have HX := Aside0.mk (At.made h)
  have HB := Aside0.mk (below_a w (.cells (arr V c) 33))
  have hbd := h.bd
  clear h
  unfold kind5 nmL
  go_enter Tryd.func19, Tryd.ntmps19
  unfold arr at *
  have hn := hbd.t
  clear hbd
  go_upto_region 1 with fail
  generalize w.alloc (.cells #[.string c.f0, .string c.f1.f0, .bool c.f1.f1, .bool c.f1.f2, .bool c.f1.f3, .bool c.f1.f4, .bool c.f1.f5, .bool c.f1.f6, .bool c.f1.f7, .bool c.f1.f8, .slice V.a10 c.f2.length V.k10, .slice V.a11 c.f3.length V.k11, .slice V.a12 c.f4.length V.k12, .slice V.a13 c.f5.length V.k13, .slice V.a14 c.f6.length V.k14, .slice V.a15 c.f7.length V.k15, .slice V.a16 c.f8.length V.k16, .slice V.a17 c.f9.length V.k17] 33) = w1 at *
  go_wp2_with fail
  go_loopw [5, 8] (fun u i wr => ∃ k : Nat, k ≤ c.f3.length ∧ i = .int .i64 k ∧ Aside0 (Kd.string.R 9 wr w.heap.size (fun g => g ≠ w.heap.size) u ((List.range k).map (fun i => (c.f3.getD i z49).f0))) ∧ Aside0 (At wr w.heap.size V c) ∧ Aside0 (Below w.heap.size w wr)) (fun _ i _ => c.f3.length - (intOf i).toNat)
  case atStart => exact ⟨0, by omega, rfl, ⟨Kd.R_nil _ _ _ _ _⟩, HX, HB⟩
  case round =>
    clear HX HB
    obtain ⟨k, hk, rfl, HR, HX, HB⟩ := hrel
    have q := HX.out.cell11
    by_cases hlt : k < c.f3.length
    · have hd : decide ((k : Int) < (c.f3.length : Int)) = true := decide_eq_true (by omega)
      have HLT := Aside0.mk (Nat.succ_le_of_lt hlt)
      obtain ⟨t, ad, A4, c4, A5, c5, A6, c6, A7, c7, ht, e, HU, _⟩ := task_at HX.out.cf.t k hlt
      have g0 := HU.g0
      rw [e] at q
      have HN := Aside0.mk (show (List.range (k + 1)).map (fun i => (c.f3.getD i z49).f0) = (List.range k).map (fun i => (c.f3.getD i z49).f0) ++ [t.f0] from by rw [nm_succ]; simp only [ht])
      have hkb : k + 1 ≤ 8796093022208 := by omega
      clear ht e HU
      generalize t.f0 = s at *
      go_wp2_with ((with_reducible refine gate_builtin (b := .append) (xs := #[.tmp 74, .tmp 81]) rfl ?_); at_builtin; refine Kd.R_append Kd.string (w0 := w) w.heap.size rfl (.tmp 74) (.tmp 81) 24 9 (.string ⟨#[]⟩) 16 rfl Tryd.underlying24 info9 rfl (by decide) (by decide) _ ((List.range k).map (fun i => (c.f3.getD i z49).f0)) s [.string s] (fun g => g ≠ w.heap.size) (fun _ => False) rfl rfl rfl (fun _ h => h.elim) (fun g hg e => by have := HX.out.lt; omega) HR.out HB.out HB.out.size ?hl ?_; (case hl => rw [List.length_map, List.length_range]; omega); intro v3 w3 HR3 HB3 HG3 HA3; have HX3 : At w3 w.heap.size V c := ⟨(HG3.block _ HX.out.lt (fun e => HR.out.1 _ e.symm rfl)).trans HX.out.box, HC.out.below HB3⟩; rw [← HN.out] at HR3; have HRc := Aside0.mk HR3; have HBc := Aside0.mk HB3; have HXc := Aside0.mk HX3; clear HR3 HB3 HG3 HA3 HX3)
      go_roundw
      case rel => exact ⟨k + 1, HLT.out, by go_num, HRc, HXc, HBc⟩
      case measure => have := HLT.out; simp [intOf]; omega
    · have hd : decide ((k : Int) < (c.f3.length : Int)) = false := decide_eq_false (by omega)
      obtain ⟨A, cap, rfl, hcap, hcc⟩ := Kd.R_reads HR.out
      have hlen : ((List.range k).map (fun i => (c.f3.getD i z49).f0)).length = c.f3.length := by rw [List.length_map, List.length_range]; omega
      rw [hlen] at hcap hcc ⊢
      have HCC := Aside0.mk (show Kd.string.C wr A c.f3.length ((List.range c.f3.length).map (fun i => (c.f3.getD i z49).f0)) from by rw [show c.f3.length = k by omega] at hcc ⊢; exact hcc)
      clear hlen hcc
      go_wp2_with fail
      go_ret
      exact ⟨A, cap, rfl, hcap, HCC.out, HB.out⟩
set_option maxRecDepth 1000000 in
set_option maxHeartbeats 4000000 in
theorem names6 : NamesOf kind6 := by
  intro w V c h
  have HC := Aside0.mk h
  have HX := Aside0.mk (At.made h)
  have HB := Aside0.mk (below_a w (.cells (arr V c) 33))
  have hbd := h.bd
  clear h
  unfold kind6 nmL
  go_enter Tryd.func19, Tryd.ntmps19
  unfold arr at *
  have hn := hbd.x
  clear hbd
  go_upto_region 1 with fail
  generalize w.alloc (.cells #[.string c.f0, .string c.f1.f0, .bool c.f1.f1, .bool c.f1.f2, .bool c.f1.f3, .bool c.f1.f4, .bool c.f1.f5, .bool c.f1.f6, .bool c.f1.f7, .bool c.f1.f8, .slice V.a10 c.f2.length V.k10, .slice V.a11 c.f3.length V.k11, .slice V.a12 c.f4.length V.k12, .slice V.a13 c.f5.length V.k13, .slice V.a14 c.f6.length V.k14, .slice V.a15 c.f7.length V.k15, .slice V.a16 c.f8.length V.k16, .slice V.a17 c.f9.length V.k17] 33) = w1 at *
  go_wp2_with fail
  go_loopw [5, 9] (fun u i wr => ∃ k : Nat, k ≤ c.f6.length ∧ i = .int .i64 k ∧ Aside0 (Kd.string.R 9 wr w.heap.size (fun g => g ≠ w.heap.size) u ((List.range k).map (fun i => (c.f6.getD i z62).f0))) ∧ Aside0 (At wr w.heap.size V c) ∧ Aside0 (Below w.heap.size w wr)) (fun _ i _ => c.f6.length - (intOf i).toNat)
  case atStart => exact ⟨0, by omega, rfl, ⟨Kd.R_nil _ _ _ _ _⟩, HX, HB⟩
  case round =>
    clear HX HB
    obtain ⟨k, hk, rfl, HR, HX, HB⟩ := hrel
    have q := HX.out.cell14
    by_cases hlt : k < c.f6.length
    · have hd : decide ((k : Int) < (c.f6.length : Int)) = true := decide_eq_true (by omega)
      have HLT := Aside0.mk (Nat.succ_le_of_lt hlt)
      obtain ⟨t, ad, ht, e, HU⟩ := ctr_at HX.out.cf.x k hlt
      have g0 := HU.g0
      rw [e] at q
      have HN := Aside0.mk (show (List.range (k + 1)).map (fun i => (c.f6.getD i z62).f0) = (List.range k).map (fun i => (c.f6.getD i z62).f0) ++ [t.f0] from by rw [nm_succ]; simp only [ht])
      have hkb : k + 1 ≤ 8796093022208 := by omega
      clear ht e HU
      generalize t.f0 = s at *
      go_wp2_with ((with_reducible refine gate_builtin (b := .append) (xs := #[.tmp 92, .tmp 99]) rfl ?_); at_builtin; refine Kd.R_append Kd.string (w0 := w) w.heap.size rfl (.tmp 92) (.tmp 99) 24 9 (.string ⟨#[]⟩) 16 rfl Tryd.underlying24 info9 rfl (by decide) (by decide) _ ((List.range k).map (fun i => (c.f6.getD i z62).f0)) s [.string s] (fun g => g ≠ w.heap.size) (fun _ => False) rfl rfl rfl (fun _ h => h.elim) (fun g hg e => by have := HX.out.lt; omega) HR.out HB.out HB.out.size ?hl ?_; (case hl => rw [List.length_map, List.length_range]; omega); intro v3 w3 HR3 HB3 HG3 HA3; have HX3 : At w3 w.heap.size V c := ⟨(HG3.block _ HX.out.lt (fun e => HR.out.1 _ e.symm rfl)).trans HX.out.box, HC.out.below HB3⟩; rw [← HN.out] at HR3; have HRc := Aside0.mk HR3; have HBc := Aside0.mk HB3; have HXc := Aside0.mk HX3; clear HR3 HB3 HG3 HA3 HX3)
      go_roundw
      case rel => exact ⟨k + 1, HLT.out, by go_num, HRc, HXc, HBc⟩
      case measure => have := HLT.out; simp [intOf]; omega
    · have hd : decide ((k : Int) < (c.f6.length : Int)) = false := decide_eq_false (by omega)
      obtain ⟨A, cap, rfl, hcap, hcc⟩ := Kd.R_reads HR.out
      have hlen : ((List.range k).map (fun i => (c.f6.getD i z62).f0)).length = c.f6.length := by rw [List.length_map, List.length_range]; omega
      rw [hlen] at hcap hcc ⊢
      have HCC := Aside0.mk (show Kd.string.C wr A c.f6.length ((List.range c.f6.length).map (fun i => (c.f6.getD i z62).f0)) from by rw [show c.f6.length = k by omega] at hcc ⊢; exact hcc)
      clear hlen hcc
      go_wp2_with fail
      go_ret
      exact ⟨A, cap, rfl, hcap, HCC.out, HB.out⟩
set_option maxRecDepth 1000000 in
set_option maxHeartbeats 4000000 in
theorem names7 : NamesOf kind7 := by
  intro w V c h
  have HC := Aside0.mk h
  have HX := Aside0.mk (At.made h)
  have HB := Aside0.mk (below_a w (.cells (arr V c) 33))
  have hbd := h.bd
  clear h
  unfold kind7 nmL
  go_enter Tryd.func19, Tryd.ntmps19
  unfold arr at *
  have hn := hbd.a
  clear hbd
  go_upto_region 1 with fail
  generalize w.alloc (.cells #[.string c.f0, .string c.f1.f0, .bool c.f1.f1, .bool c.f1.f2, .bool c.f1.f3, .bool c.f1.f4, .bool c.f1.f5, .bool c.f1.f6, .bool c.f1.f7, .bool c.f1.f8, .slice V.a10 c.f2.length V.k10, .slice V.a11 c.f3.length V.k11, .slice V.a12 c.f4.length V.k12, .slice V.a13 c.f5.length V.k13, .slice V.a14 c.f6.length V.k14, .slice V.a15 c.f7.length V.k15, .slice V.a16 c.f8.length V.k16, .slice V.a17 c.f9.length V.k17] 33) = w1 at *
  go_wp2_with fail
  go_loopw [5, 10] (fun u i wr => ∃ k : Nat, k ≤ c.f7.length ∧ i = .int .i64 k ∧ Aside0 (Kd.string.R 9 wr w.heap.size (fun g => g ≠ w.heap.size) u ((List.range k).map (fun i => (c.f7.getD i z60).f0))) ∧ Aside0 (At wr w.heap.size V c) ∧ Aside0 (Below w.heap.size w wr)) (fun _ i _ => c.f7.length - (intOf i).toNat)
  case atStart => exact ⟨0, by omega, rfl, ⟨Kd.R_nil _ _ _ _ _⟩, HX, HB⟩
  case round =>
    clear HX HB
    obtain ⟨k, hk, rfl, HR, HX, HB⟩ := hrel
    have q := HX.out.cell15
    by_cases hlt : k < c.f7.length
    · have hd : decide ((k : Int) < (c.f7.length : Int)) = true := decide_eq_true (by omega)
      have HLT := Aside0.mk (Nat.succ_le_of_lt hlt)
      obtain ⟨t, ad, A6, c6, ht, e, HU, _⟩ := alm_at HX.out.cf.a k hlt
      have g0 := HU.g0
      rw [e] at q
      have HN := Aside0.mk (show (List.range (k + 1)).map (fun i => (c.f7.getD i z60).f0) = (List.range k).map (fun i => (c.f7.getD i z60).f0) ++ [t.f0] from by rw [nm_succ]; simp only [ht])
      have hkb : k + 1 ≤ 8796093022208 := by omega
      clear ht e HU
      generalize t.f0 = s at *
      go_wp2_with ((with_reducible refine gate_builtin (b := .append) (xs := #[.tmp 110, .tmp 117]) rfl ?_); at_builtin; refine Kd.R_append Kd.string (w0 := w) w.heap.size rfl (.tmp 110) (.tmp 117) 24 9 (.string ⟨#[]⟩) 16 rfl Tryd.underlying24 info9 rfl (by decide) (by decide) _ ((List.range k).map (fun i => (c.f7.getD i z60).f0)) s [.string s] (fun g => g ≠ w.heap.size) (fun _ => False) rfl rfl rfl (fun _ h => h.elim) (fun g hg e => by have := HX.out.lt; omega) HR.out HB.out HB.out.size ?hl ?_; (case hl => rw [List.length_map, List.length_range]; omega); intro v3 w3 HR3 HB3 HG3 HA3; have HX3 : At w3 w.heap.size V c := ⟨(HG3.block _ HX.out.lt (fun e => HR.out.1 _ e.symm rfl)).trans HX.out.box, HC.out.below HB3⟩; rw [← HN.out] at HR3; have HRc := Aside0.mk HR3; have HBc := Aside0.mk HB3; have HXc := Aside0.mk HX3; clear HR3 HB3 HG3 HA3 HX3)
      go_roundw
      case rel => exact ⟨k + 1, HLT.out, by go_num, HRc, HXc, HBc⟩
      case measure => have := HLT.out; simp [intOf]; omega
    · have hd : decide ((k : Int) < (c.f7.length : Int)) = false := decide_eq_false (by omega)
      obtain ⟨A, cap, rfl, hcap, hcc⟩ := Kd.R_reads HR.out
      have hlen : ((List.range k).map (fun i => (c.f7.getD i z60).f0)).length = c.f7.length := by rw [List.length_map, List.length_range]; omega
      rw [hlen] at hcap hcc ⊢
      have HCC := Aside0.mk (show Kd.string.C wr A c.f7.length ((List.range c.f7.length).map (fun i => (c.f7.getD i z60).f0)) from by rw [show c.f7.length = k by omega] at hcc ⊢; exact hcc)
      clear hlen hcc
      go_wp2_with fail
      go_ret
      exact ⟨A, cap, rfl, hcap, HCC.out, HB.out⟩
set_option maxRecDepth 1000000 in
set_option maxHeartbeats 4000000 in
theorem names8 : NamesOf kind8 := by
  intro w V c h
  have HC := Aside0.mk h
  have HX := Aside0.mk (At.made h)
  have HB := Aside0.mk (below_a w (.cells (arr V c) 33))
  have hbd := h.bd
  clear h
  unfold kind8 nmL
  go_enter Tryd.func19, Tryd.ntmps19
  unfold arr at *
  have hn := hbd.i
  clear hbd
  go_upto_region 1 with fail
  generalize w.alloc (.cells #[.string c.f0, .string c.f1.f0, .bool c.f1.f1, .bool c.f1.f2, .bool c.f1.f3, .bool c.f1.f4, .bool c.f1.f5, .bool c.f1.f6, .bool c.f1.f7, .bool c.f1.f8, .slice V.a10 c.f2.length V.k10, .slice V.a11 c.f3.length V.k11, .slice V.a12 c.f4.length V.k12, .slice V.a13 c.f5.length V.k13, .slice V.a14 c.f6.length V.k14, .slice V.a15 c.f7.length V.k15, .slice V.a16 c.f8.length V.k16, .slice V.a17 c.f9.length V.k17] 33) = w1 at *
  go_wp2_with fail
  go_loopw [5, 11] (fun u i wr => ∃ k : Nat, k ≤ c.f8.length ∧ i = .int .i64 k ∧ Aside0 (Kd.string.R 9 wr w.heap.size (fun g => g ≠ w.heap.size) u ((List.range k).map (fun i => (c.f8.getD i z55).f0))) ∧ Aside0 (At wr w.heap.size V c) ∧ Aside0 (Below w.heap.size w wr)) (fun _ i _ => c.f8.length - (intOf i).toNat)
  case atStart => exact ⟨0, by omega, rfl, ⟨Kd.R_nil _ _ _ _ _⟩, HX, HB⟩
  case round =>
    clear HX HB
    obtain ⟨k, hk, rfl, HR, HX, HB⟩ := hrel
    have q := HX.out.cell16
    by_cases hlt : k < c.f8.length
    · have hd : decide ((k : Int) < (c.f8.length : Int)) = true := decide_eq_true (by omega)
      have HLT := Aside0.mk (Nat.succ_le_of_lt hlt)
      obtain ⟨t, ad, A3, c3, A4, c4, ht, e, HU, _⟩ := isr_at HX.out.cf.i k hlt
      have g0 := HU.g0
      rw [e] at q
      have HN := Aside0.mk (show (List.range (k + 1)).map (fun i => (c.f8.getD i z55).f0) = (List.range k).map (fun i => (c.f8.getD i z55).f0) ++ [t.f0] from by rw [nm_succ]; simp only [ht])
      have hkb : k + 1 ≤ 8796093022208 := by omega
      clear ht e HU
      generalize t.f0 = s at *
      go_wp2_with ((with_reducible refine gate_builtin (b := .append) (xs := #[.tmp 128, .tmp 135]) rfl ?_); at_builtin; refine Kd.R_append Kd.string (w0 := w) w.heap.size rfl (.tmp 128) (.tmp 135) 24 9 (.string ⟨#[]⟩) 16 rfl Tryd.underlying24 info9 rfl (by decide) (by decide) _ ((List.range k).map (fun i => (c.f8.getD i z55).f0)) s [.string s] (fun g => g ≠ w.heap.size) (fun _ => False) rfl rfl rfl (fun _ h => h.elim) (fun g hg e => by have := HX.out.lt; omega) HR.out HB.out HB.out.size ?hl ?_; (case hl => rw [List.length_map, List.length_range]; omega); intro v3 w3 HR3 HB3 HG3 HA3; have HX3 : At w3 w.heap.size V c := ⟨(HG3.block _ HX.out.lt (fun e => HR.out.1 _ e.symm rfl)).trans HX.out.box, HC.out.below HB3⟩; rw [← HN.out] at HR3; have HRc := Aside0.mk HR3; have HBc := Aside0.mk HB3; have HXc := Aside0.mk HX3; clear HR3 HB3 HG3 HA3 HX3)
      go_roundw
      case rel => exact ⟨k + 1, HLT.out, by go_num, HRc, HXc, HBc⟩
      case measure => have := HLT.out; simp [intOf]; omega
    · have hd : decide ((k : Int) < (c.f8.length : Int)) = false := decide_eq_false (by omega)
      obtain ⟨A, cap, rfl, hcap, hcc⟩ := Kd.R_reads HR.out
      have hlen : ((List.range k).map (fun i => (c.f8.getD i z55).f0)).length = c.f8.length := by rw [List.length_map, List.length_range]; omega
      rw [hlen] at hcap hcc ⊢
      have HCC := Aside0.mk (show Kd.string.C wr A c.f8.length ((List.range c.f8.length).map (fun i => (c.f8.getD i z55).f0)) from by rw [show c.f8.length = k by omega] at hcc ⊢; exact hcc)
      clear hlen hcc
      go_wp2_with fail
      go_ret
      exact ⟨A, cap, rfl, hcap, HCC.out, HB.out⟩
set_option maxRecDepth 1000000 in
set_option maxHeartbeats 4000000 in
theorem names9 : NamesOf kind9 := by
  intro w V c h
  have HC := Aside0.mk h
  have HX := Aside0.mk (At.made h)
  have HB := Aside0.mk (below_a w (.cells (arr V c) 33))
  have hbd := h.bd
  clear h
  unfold kind9 nmL
  go_enter Tryd.func19, Tryd.ntmps19
  unfold arr at *
  have hn := hbd.g
  clear hbd
  go_upto_region 1 with fail
  generalize w.alloc (.cells #[.string c.f0, .string c.f1.f0, .bool c.f1.f1, .bool c.f1.f2, .bool c.f1.f3, .bool c.f1.f4, .bool c.f1.f5, .bool c.f1.f6, .bool c.f1.f7, .bool c.f1.f8, .slice V.a10 c.f2.length V.k10, .slice V.a11 c.f3.length V.k11, .slice V.a12 c.f4.length V.k12, .slice V.a13 c.f5.length V.k13, .slice V.a14 c.f6.length V.k14, .slice V.a15 c.f7.length V.k15, .slice V.a16 c.f8.length V.k16, .slice V.a17 c.f9.length V.k17] 33) = w1 at *
  go_wp2_with fail
  go_loopw [5, 12] (fun u i wr => ∃ k : Nat, k ≤ c.f9.length ∧ i = .int .i64 k ∧ Aside0 (Kd.string.R 9 wr w.heap.size (fun g => g ≠ w.heap.size) u ((List.range k).map (fun i => (c.f9.getD i z91).f0))) ∧ Aside0 (At wr w.heap.size V c) ∧ Aside0 (Below w.heap.size w wr)) (fun _ i _ => c.f9.length - (intOf i).toNat)
  case atStart => exact ⟨0, by omega, rfl, ⟨Kd.R_nil _ _ _ _ _⟩, HX, HB⟩
  case round =>
    clear HX HB
    obtain ⟨k, hk, rfl, HR, HX, HB⟩ := hrel
    have q := HX.out.cell17
    by_cases hlt : k < c.f9.length
    · have hd : decide ((k : Int) < (c.f9.length : Int)) = true := decide_eq_true (by omega)
      have HLT := Aside0.mk (Nat.succ_le_of_lt hlt)
      obtain ⟨t, ad, ht, e, HU⟩ := msg_at HX.out.cf.g k hlt
      have g0 := HU.g0
      rw [e] at q
      have HN := Aside0.mk (show (List.range (k + 1)).map (fun i => (c.f9.getD i z91).f0) = (List.range k).map (fun i => (c.f9.getD i z91).f0) ++ [t.f0] from by rw [nm_succ]; simp only [ht])
      have hkb : k + 1 ≤ 8796093022208 := by omega
      clear ht e HU
      generalize t.f0 = s at *
      go_wp2_with ((with_reducible refine gate_builtin (b := .append) (xs := #[.tmp 146, .tmp 153]) rfl ?_); at_builtin; refine Kd.R_append Kd.string (w0 := w) w.heap.size rfl (.tmp 146) (.tmp 153) 24 9 (.string ⟨#[]⟩) 16 rfl Tryd.underlying24 info9 rfl (by decide) (by decide) _ ((List.range k).map (fun i => (c.f9.getD i z91).f0)) s [.string s] (fun g => g ≠ w.heap.size) (fun _ => False) rfl rfl rfl (fun _ h => h.elim) (fun g hg e => by have := HX.out.lt; omega) HR.out HB.out HB.out.size ?hl ?_; (case hl => rw [List.length_map, List.length_range]; omega); intro v3 w3 HR3 HB3 HG3 HA3; have HX3 : At w3 w.heap.size V c := ⟨(HG3.block _ HX.out.lt (fun e => HR.out.1 _ e.symm rfl)).trans HX.out.box, HC.out.below HB3⟩; rw [← HN.out] at HR3; have HRc := Aside0.mk HR3; have HBc := Aside0.mk HB3; have HXc := Aside0.mk HX3; clear HR3 HB3 HG3 HA3 HX3)
      go_roundw
      case rel => exact ⟨k + 1, HLT.out, by go_num, HRc, HXc, HBc⟩
      case measure => have := HLT.out; simp [intOf]; omega
    · have hd : decide ((k : Int) < (c.f9.length : Int)) = false := decide_eq_false (by omega)
      obtain ⟨A, cap, rfl, hcap, hcc⟩ := Kd.R_reads HR.out
      have hlen : ((List.range k).map (fun i => (c.f9.getD i z91).f0)).length = c.f9.length := by rw [List.length_map, List.length_range]; omega
      rw [hlen] at hcap hcc ⊢
      have HCC := Aside0.mk (show Kd.string.C wr A c.f9.length ((List.range c.f9.length).map (fun i => (c.f9.getD i z91).f0)) from by rw [show c.f9.length = k by omega] at hcc ⊢; exact hcc)
      clear hlen hcc
      go_wp2_with fail
      go_ret
      exact ⟨A, cap, rfl, hcap, HCC.out, HB.out⟩
end Go.Proofs.YthckjbmgeidkgaaDoor.XA
/- the document's named (20), one (21). -/
namespace Go.Proofs.YthckjbmgeidkgaaDoor.XA
set_option linter.unusedVariables false
set_option linter.unusedSimpArgs false
open Go.RowKit Go.WideMaps Go.Maps Go.Proofs.YthckjbmgeidkgaaDoorW.PrintWords Go.Proofs.YthckjbmgeidkgaaDoorW.PrintLast Go.Proofs.YthckjbmgeidkgaaDoorW.PrintMore
theorem bl_toList (s : ByteArray) : s.toList = s.data.toList := ByteArray.toList_eq s
theorem memS_yes {l : List ByteArray} {s : ByteArray} {k : Nat} (hk : k < l.length) (h : ((l.getD k ⟨#[]⟩).toList == s.toList) = true) : memS l s = true := by
  unfold memS
  rw [List.any_eq_true]
  refine ⟨l.getD k ⟨#[]⟩, getD_mem hk, ?_⟩
  rw [bl_toList, bl_toList] at h
  exact h
theorem memS_no {l : List ByteArray} {s : ByteArray} (h : ∀ k, k < l.length → ((l.getD k ⟨#[]⟩).toList == s.toList) = false) : memS l s = false := by
  unfold memS
  rw [List.any_eq_false]
  intro x hx
  obtain ⟨k, hk, rfl⟩ := List.getElem_of_mem hx
  have := h k hk
  rw [List.getD_eq_getElem?_getD, List.getElem?_eq_getElem hk, bl_toList, bl_toList] at this
  simpa using this
/-- what is wrong with a name among the names ahead of it -/
def namedV (l : List ByteArray) (i : Nat) : Int := if nameB (l.getD i ⟨#[]⟩) && !memS (l.take i) (l.getD i ⟨#[]⟩) then 0 else 72
set_option maxRecDepth 1000000 in
set_option maxHeartbeats 4000000 in
theorem named_calls (A : Option Addr) (cap : Nat) (l : List ByteArray) (i : Nat) (w : World) (hl : Kd.string.C w A l.length l) (hcap : l.length ≤ cap) (hi : i < l.length) (hz : ∀ x ∈ l, x.size ≤ 140737488355328) :
    Calls Tryd.prog 20 #[.slice A l.length cap, .int .i64 i] w fun e w' => e = .returned (.int .i64 (namedV l i)) ∧ Below w.heap.size w w' := by
  have hlen := hl.2.1
  have HL := Aside0.mk hl
  have hzi := hz _ (getD_mem (d := ⟨#[]⟩) hi)
  have hzi : (l.getD i ⟨#[]⟩).size ≤ 9223372036854775807 := by omega
  obtain ⟨ad, rfl, hc⟩ := Kd.at_string hl i (by omega) (by omega)
  rw [Int.toNat_natCast] at hc
  have hr : rdOf ByteArray.empty l i = l.getD i ⟨#[]⟩ := by unfold rdOf; simp; rfl
  rw [hr] at hc
  clear hz hl hr
  have HIN := Aside0.mk (fun (k : Nat) (hk : k < i) => show (l.take i).getD k ⟨#[]⟩ = l.getD k ⟨#[]⟩ from by
    rw [List.getD_eq_getElem?_getD, List.getElem?_take, if_pos hk, List.getD_eq_getElem?_getD])
  have HLN := Aside0.mk (show (l.take i).length = i from by rw [List.length_take]; omega)
  have HV := Aside0.mk (show namedV l i = if nameB (l.getD i ⟨#[]⟩) && !memS (l.take i) (l.getD i ⟨#[]⟩) then 0 else 72 from rfl)
  generalize hs : l.getD i ⟨#[]⟩ = s at *
  clear hs
  generalize namedV l i = nv at *
  go_enter Tryd.func20, Tryd.ntmps20
  go_wp2_with fail
  refine (nameR_calls s w hzi).mono ?_
  rintro e w' ⟨rfl, rfl⟩
  rcases hn : nameB s with _ | _
  · have HK := Aside0.mk (show nv = 72 from by rw [HV.out, hn]; rfl)
    go_wp2_with fail
    go_ret
    exact ⟨by rw [HK.out] <;> rfl, Below.refl _ _⟩
  · replace HV := Aside0.mk (show nv = if !memS (l.take i) s then 0 else 72 from by rw [HV.out, hn]; rfl)
    go_wp2_with fail
    go_loopw [5] (fun kv wr => ∃ k : Nat, k ≤ i ∧ kv = .int .i64 k ∧ Aside0 (Below w'.heap.size w' wr) ∧ Aside0 (∀ m, m < k → ((l.getD m ⟨#[]⟩).toList == s.toList) = false)) (fun kv _ => i - (intOf kv).toNat)
    case atStart => exact ⟨0, by omega, rfl, ⟨Below.refl _ _⟩, ⟨fun m hm => by omega⟩⟩
    case round =>
      obtain ⟨k, hk, rfl, HW, HR⟩ := hrel
      by_cases hlt : k < i
      · have hd : decide ((k : Int) < (i : Int)) = true := decide_eq_true (by omega)
        have HLT := Aside0.mk (Nat.succ_le_of_lt hlt)
        have HKI := Aside0.mk hlt
        have hkl : k < l.length := by omega
        have hcw := (HW.out.cell (World.block_lt_of_cell? w' _ hc)).trans hc
        obtain ⟨ad2, e2, hk2⟩ := Kd.at_string (Kd.C_below HL.out HW.out) k (by omega) (by omega)
        injection e2 with e2
        subst e2
        rw [Int.toNat_natCast, show rdOf ByteArray.empty l k = l.getD k ⟨#[]⟩ from by unfold rdOf; simp; rfl] at hk2
        generalize hu : l.getD k ⟨#[]⟩ = u at *
        have HU := Aside0.mk hu
        clear hu
        go_wp2_with fail
        go_quiet (fail)
        rcases hb : (u.toList == s.toList) with _ | _
        · have HB := Aside0.mk hb
          go_wp2_with fail
          go_roundw
          case rel => exact ⟨k + 1, HLT.out, by go_num, ⟨HW.out.trans ((drewN_below _ _).mono HW.out.size)⟩, ⟨fun m hm => by
            rcases Nat.lt_succ_iff_lt_or_eq.mp hm with h1 | rfl
            · exact HR.out m h1
            · rw [HU.out]; exact HB.out⟩⟩
          case measure => have := HLT.out; simp [intOf]; omega
        · have HM := Aside0.mk (show memS (l.take i) s = true from memS_yes (k := k) (by rw [HLN.out]; exact HKI.out) (by rw [HIN.out k HKI.out, HU.out]; exact hb))
          go_wp2_with fail
          go_ret
          exact ⟨by rw [HV.out, HM.out] <;> rfl, HW.out.trans ((drewN_below _ _).mono HW.out.size)⟩
      · have hd : decide ((k : Int) < (i : Int)) = false := decide_eq_false (by omega)
        have HM := Aside0.mk (show memS (l.take i) s = false from memS_no (fun m hm => by rw [HLN.out] at hm; rw [HIN.out m hm]; exact HR.out m (by omega)))
        go_wp2_with fail
        go_ret
        exact ⟨by rw [HV.out, HM.out] <;> rfl, HW.out⟩
/-- the document's row of an object, by its kind's word -/
def OneOf (K : Kind) : Prop := ∀ (w : World) (V : CV) (c : S33) (i : Nat), Cf w V c → NamOk c → i < K.n c → Calls Tryd.prog 21 #[.agg (arr V c), .string K.word, .int .i64 i] w fun e w' => e = .returned (.int .i64 (errF K.Es c i)) ∧ Below w.heap.size w w'
set_option maxRecDepth 1000000 in
set_option maxHeartbeats 4000000 in
theorem one0 : OneOf kind0 := by
  intro w V c i h hnm hi
  have HX := Aside0.mk (At.made h)
  have HB := Aside0.mk (below_a w (.cells (arr V c) 33))
  have HNM := Aside0.mk hnm
  clear h hnm
  unfold kind0 at hi ⊢
  go_enter Tryd.func21, Tryd.ntmps21
  unfold arr at *
  go_upto_region 1 with fail
  generalize w.alloc (.cells #[.string c.f0, .string c.f1.f0, .bool c.f1.f1, .bool c.f1.f2, .bool c.f1.f3, .bool c.f1.f4, .bool c.f1.f5, .bool c.f1.f6, .bool c.f1.f7, .bool c.f1.f8, .slice V.a10 c.f2.length V.k10, .slice V.a11 c.f3.length V.k11, .slice V.a12 c.f4.length V.k12, .slice V.a13 c.f5.length V.k13, .slice V.a14 c.f6.length V.k14, .slice V.a15 c.f7.length V.k15, .slice V.a16 c.f8.length V.k16, .slice V.a17 c.f9.length V.k17] 33) = w1 at *
  go_wp2_with fail
  go_ret
  exact ⟨rfl, HB.out⟩
set_option maxRecDepth 1000000 in
set_option maxHeartbeats 4000000 in
theorem one1 : OneOf kind1 := by
  intro w V c i h hnm hi
  have HX := Aside0.mk (At.made h)
  have HB := Aside0.mk (below_a w (.cells (arr V c) 33))
  have HNM := Aside0.mk hnm
  clear h hnm
  unfold kind1 at hi ⊢
  go_enter Tryd.func21, Tryd.ntmps21
  unfold arr at *
  go_upto_region 1 with fail
  generalize w.alloc (.cells #[.string c.f0, .string c.f1.f0, .bool c.f1.f1, .bool c.f1.f2, .bool c.f1.f3, .bool c.f1.f4, .bool c.f1.f5, .bool c.f1.f6, .bool c.f1.f7, .bool c.f1.f8, .slice V.a10 c.f2.length V.k10, .slice V.a11 c.f3.length V.k11, .slice V.a12 c.f4.length V.k12, .slice V.a13 c.f5.length V.k13, .slice V.a14 c.f6.length V.k14, .slice V.a15 c.f7.length V.k15, .slice V.a16 c.f8.length V.k16, .slice V.a17 c.f9.length V.k17] 33) = w1 at *
  go_wp2_with fail
  go_ret
  exact ⟨rfl, HB.out⟩
set_option maxRecDepth 1000000 in
set_option maxHeartbeats 4000000 in
theorem one2 : OneOf kind2 := by
  intro w V c i h hnm hi
  have HX := Aside0.mk (At.made h)
  have HB := Aside0.mk (below_a w (.cells (arr V c) 33))
  have HNM := Aside0.mk hnm
  clear h hnm
  unfold kind2 at hi ⊢
  go_enter Tryd.func21, Tryd.ntmps21
  unfold arr at *
  go_upto_region 1 with fail
  generalize w.alloc (.cells #[.string c.f0, .string c.f1.f0, .bool c.f1.f1, .bool c.f1.f2, .bool c.f1.f3, .bool c.f1.f4, .bool c.f1.f5, .bool c.f1.f6, .bool c.f1.f7, .bool c.f1.f8, .slice V.a10 c.f2.length V.k10, .slice V.a11 c.f3.length V.k11, .slice V.a12 c.f4.length V.k12, .slice V.a13 c.f5.length V.k13, .slice V.a14 c.f6.length V.k14, .slice V.a15 c.f7.length V.k15, .slice V.a16 c.f8.length V.k16, .slice V.a17 c.f9.length V.k17] 33) = w1 at *
  go_wp2_with fail
  go_ret
  exact ⟨rfl, HB.out⟩
set_option maxRecDepth 1000000 in
set_option maxHeartbeats 4000000 in
theorem one3 : OneOf kind3 := by
  intro w V c i h hnm hi
  have HX := Aside0.mk (At.made h)
  have HB := Aside0.mk (below_a w (.cells (arr V c) 33))
  have HNM := Aside0.mk hnm
  clear h hnm
  unfold kind3 at hi ⊢
  go_enter Tryd.func21, Tryd.ntmps21
  unfold arr at *
  go_upto_region 1 with fail
  generalize w.alloc (.cells #[.string c.f0, .string c.f1.f0, .bool c.f1.f1, .bool c.f1.f2, .bool c.f1.f3, .bool c.f1.f4, .bool c.f1.f5, .bool c.f1.f6, .bool c.f1.f7, .bool c.f1.f8, .slice V.a10 c.f2.length V.k10, .slice V.a11 c.f3.length V.k11, .slice V.a12 c.f4.length V.k12, .slice V.a13 c.f5.length V.k13, .slice V.a14 c.f6.length V.k14, .slice V.a15 c.f7.length V.k15, .slice V.a16 c.f8.length V.k16, .slice V.a17 c.f9.length V.k17] 33) = w1 at *
  go_wp2_with (first | ((with_reducible refine gate_dst (N := 10) rfl ?_); refine load33 HX.out rfl (.tmp 3) rfl rfl ?_))
  have hx := resource_calls.named w1 V c i HX.out.cf HNM.out hi
  unfold arr at hx
  refine hx.mono ?_
  clear hx
  rintro e w2 ⟨rfl, B2⟩
  go_wp2_with fail
  go_ret
  exact ⟨rfl, HB.out.trans (B2.mono HB.out.size)⟩
set_option maxRecDepth 1000000 in
set_option maxHeartbeats 4000000 in
theorem one5 : OneOf kind5 := by
  intro w V c i h hnm hi
  have HX := Aside0.mk (At.made h)
  have HB := Aside0.mk (below_a w (.cells (arr V c) 33))
  have HNM := Aside0.mk hnm
  clear h hnm
  unfold kind5 at hi ⊢
  go_enter Tryd.func21, Tryd.ntmps21
  unfold arr at *
  go_upto_region 1 with fail
  generalize w.alloc (.cells #[.string c.f0, .string c.f1.f0, .bool c.f1.f1, .bool c.f1.f2, .bool c.f1.f3, .bool c.f1.f4, .bool c.f1.f5, .bool c.f1.f6, .bool c.f1.f7, .bool c.f1.f8, .slice V.a10 c.f2.length V.k10, .slice V.a11 c.f3.length V.k11, .slice V.a12 c.f4.length V.k12, .slice V.a13 c.f5.length V.k13, .slice V.a14 c.f6.length V.k14, .slice V.a15 c.f7.length V.k15, .slice V.a16 c.f8.length V.k16, .slice V.a17 c.f9.length V.k17] 33) = w1 at *
  go_wp2_with (first | ((with_reducible refine gate_dst (N := 24) rfl ?_); refine load33 HX.out rfl (.tmp 3) rfl rfl ?_))
  have hx := task_calls w1 V c i HX.out.cf HNM.out hi
  unfold arr at hx
  refine hx.mono ?_
  clear hx
  rintro e w2 ⟨rfl, B2⟩
  go_wp2_with fail
  go_ret
  exact ⟨rfl, HB.out.trans (B2.mono HB.out.size)⟩
set_option maxRecDepth 1000000 in
set_option maxHeartbeats 4000000 in
theorem one6 : OneOf kind6 := by
  intro w V c i h hnm hi
  have HX := Aside0.mk (At.made h)
  have HB := Aside0.mk (below_a w (.cells (arr V c) 33))
  have HNM := Aside0.mk hnm
  clear h hnm
  unfold kind6 at hi ⊢
  go_enter Tryd.func21, Tryd.ntmps21
  unfold arr at *
  go_upto_region 1 with fail
  generalize w.alloc (.cells #[.string c.f0, .string c.f1.f0, .bool c.f1.f1, .bool c.f1.f2, .bool c.f1.f3, .bool c.f1.f4, .bool c.f1.f5, .bool c.f1.f6, .bool c.f1.f7, .bool c.f1.f8, .slice V.a10 c.f2.length V.k10, .slice V.a11 c.f3.length V.k11, .slice V.a12 c.f4.length V.k12, .slice V.a13 c.f5.length V.k13, .slice V.a14 c.f6.length V.k14, .slice V.a15 c.f7.length V.k15, .slice V.a16 c.f8.length V.k16, .slice V.a17 c.f9.length V.k17] 33) = w1 at *
  go_wp2_with (first | ((with_reducible refine gate_dst (N := 29) rfl ?_); refine load33 HX.out rfl (.tmp 3) rfl rfl ?_))
  have hx := counter_calls.named w1 V c i HX.out.cf HNM.out hi
  unfold arr at hx
  refine hx.mono ?_
  clear hx
  rintro e w2 ⟨rfl, B2⟩
  go_wp2_with fail
  go_ret
  exact ⟨rfl, HB.out.trans (B2.mono HB.out.size)⟩
set_option maxRecDepth 1000000 in
set_option maxHeartbeats 4000000 in
theorem one7 : OneOf kind7 := by
  intro w V c i h hnm hi
  have HX := Aside0.mk (At.made h)
  have HB := Aside0.mk (below_a w (.cells (arr V c) 33))
  have HNM := Aside0.mk hnm
  clear h hnm
  unfold kind7 at hi ⊢
  go_enter Tryd.func21, Tryd.ntmps21
  unfold arr at *
  go_upto_region 1 with fail
  generalize w.alloc (.cells #[.string c.f0, .string c.f1.f0, .bool c.f1.f1, .bool c.f1.f2, .bool c.f1.f3, .bool c.f1.f4, .bool c.f1.f5, .bool c.f1.f6, .bool c.f1.f7, .bool c.f1.f8, .slice V.a10 c.f2.length V.k10, .slice V.a11 c.f3.length V.k11, .slice V.a12 c.f4.length V.k12, .slice V.a13 c.f5.length V.k13, .slice V.a14 c.f6.length V.k14, .slice V.a15 c.f7.length V.k15, .slice V.a16 c.f8.length V.k16, .slice V.a17 c.f9.length V.k17] 33) = w1 at *
  go_wp2_with (first | ((with_reducible refine gate_dst (N := 34) rfl ?_); refine load33 HX.out rfl (.tmp 3) rfl rfl ?_))
  have hx := alarm_calls w1 V c i HX.out.cf HNM.out hi
  unfold arr at hx
  refine hx.mono ?_
  clear hx
  rintro e w2 ⟨rfl, B2⟩
  go_wp2_with fail
  go_ret
  exact ⟨rfl, HB.out.trans (B2.mono HB.out.size)⟩
set_option maxRecDepth 1000000 in
set_option maxHeartbeats 4000000 in
theorem one8 : OneOf kind8 := by
  intro w V c i h hnm hi
  have HX := Aside0.mk (At.made h)
  have HB := Aside0.mk (below_a w (.cells (arr V c) 33))
  have HNM := Aside0.mk hnm
  clear h hnm
  unfold kind8 at hi ⊢
  go_enter Tryd.func21, Tryd.ntmps21
  unfold arr at *
  go_upto_region 1 with fail
  generalize w.alloc (.cells #[.string c.f0, .string c.f1.f0, .bool c.f1.f1, .bool c.f1.f2, .bool c.f1.f3, .bool c.f1.f4, .bool c.f1.f5, .bool c.f1.f6, .bool c.f1.f7, .bool c.f1.f8, .slice V.a10 c.f2.length V.k10, .slice V.a11 c.f3.length V.k11, .slice V.a12 c.f4.length V.k12, .slice V.a13 c.f5.length V.k13, .slice V.a14 c.f6.length V.k14, .slice V.a15 c.f7.length V.k15, .slice V.a16 c.f8.length V.k16, .slice V.a17 c.f9.length V.k17] 33) = w1 at *
  go_wp2_with (first | ((with_reducible refine gate_dst (N := 39) rfl ?_); refine load33 HX.out rfl (.tmp 3) rfl rfl ?_))
  have hx := isr_calls w1 V c i HX.out.cf HNM.out hi
  unfold arr at hx
  refine hx.mono ?_
  clear hx
  rintro e w2 ⟨rfl, B2⟩
  go_wp2_with fail
  go_ret
  exact ⟨rfl, HB.out.trans (B2.mono HB.out.size)⟩
set_option maxRecDepth 1000000 in
set_option maxHeartbeats 4000000 in
theorem one9 : OneOf kind9 := by
  intro w V c i h hnm hi
  have HX := Aside0.mk (At.made h)
  have HB := Aside0.mk (below_a w (.cells (arr V c) 33))
  have HNM := Aside0.mk hnm
  clear h hnm
  unfold kind9 at hi ⊢
  go_enter Tryd.func21, Tryd.ntmps21
  unfold arr at *
  go_upto_region 1 with fail
  generalize w.alloc (.cells #[.string c.f0, .string c.f1.f0, .bool c.f1.f1, .bool c.f1.f2, .bool c.f1.f3, .bool c.f1.f4, .bool c.f1.f5, .bool c.f1.f6, .bool c.f1.f7, .bool c.f1.f8, .slice V.a10 c.f2.length V.k10, .slice V.a11 c.f3.length V.k11, .slice V.a12 c.f4.length V.k12, .slice V.a13 c.f5.length V.k13, .slice V.a14 c.f6.length V.k14, .slice V.a15 c.f7.length V.k15, .slice V.a16 c.f8.length V.k16, .slice V.a17 c.f9.length V.k17] 33) = w1 at *
  go_wp2_with (first | ((with_reducible refine gate_dst (N := 44) rfl ?_); refine load33 HX.out rfl (.tmp 3) rfl rfl ?_))
  have hx := message_calls w1 V c i HX.out.cf HNM.out hi
  unfold arr at hx
  refine hx.mono ?_
  clear hx
  rintro e w2 ⟨rfl, B2⟩
  go_wp2_with fail
  go_ret
  exact ⟨rfl, HB.out.trans (B2.mono HB.out.size)⟩
set_option maxRecDepth 1000000 in
set_option maxHeartbeats 4000000 in
theorem one4 : OneOf kind4 := by
  intro w V c i h hnm hi
  have HX := Aside0.mk (At.made h)
  have HB := Aside0.mk (below_a w (.cells (arr V c) 33))
  have HNM := Aside0.mk hnm
  clear h hnm
  unfold kind4 at hi ⊢
  go_enter Tryd.func21, Tryd.ntmps21
  unfold arr at *
  go_upto_region 1 with fail
  generalize w.alloc (.cells #[.string c.f0, .string c.f1.f0, .bool c.f1.f1, .bool c.f1.f2, .bool c.f1.f3, .bool c.f1.f4, .bool c.f1.f5, .bool c.f1.f6, .bool c.f1.f7, .bool c.f1.f8, .slice V.a10 c.f2.length V.k10, .slice V.a11 c.f3.length V.k11, .slice V.a12 c.f4.length V.k12, .slice V.a13 c.f5.length V.k13, .slice V.a14 c.f6.length V.k14, .slice V.a15 c.f7.length V.k15, .slice V.a16 c.f8.length V.k16, .slice V.a17 c.f9.length V.k17] 33) = w1 at *
  have hi : i < c.f5.length := hi
  obtain ⟨t, ad, ht, e, HU⟩ := evt_at HX.out.cf.e i hi
  have q := HX.out.cell13
  rw [e] at q
  have k1 := HU.g1
  have HE := Aside0.mk (show errF [eEvt] c i = if t.f1 != 0 then 0 else 74 from by rw [errF1]; unfold eEvt; rw [ht])
  clear ht e HU
  generalize t.f1 = mk at *
  by_cases hm : mk = 0
  · have b1 : (mk == 0) = true := by rw [beq_iff_eq]; exact hm
    have HK := Aside0.mk (show errF [eEvt] c i = 74 from by rw [HE.out, hm]; rfl)
    clear hm
    go_wp2_with fail
    go_ret
    exact ⟨by rw [HK.out] <;> rfl, HB.out⟩
  · have b1 : (mk == 0) = false := by rw [beq_eq_false_iff_ne]; exact hm
    have HK := Aside0.mk (show errF [eEvt] c i = 0 from by rw [HE.out, bne_iff_ne.mpr hm]; rfl)
    clear hm
    go_wp2_with fail
    go_ret
    exact ⟨by rw [HK.out] <;> rfl, HB.out⟩
end Go.Proofs.YthckjbmgeidkgaaDoor.XA
/- the document's Check. -/
namespace Go.Proofs.YthckjbmgeidkgaaDoor.XA
set_option linter.unusedVariables false
set_option linter.unusedSimpArgs false
open Go.RowKit Go.WideMaps Go.Maps Go.Proofs.YthckjbmgeidkgaaDoorW.PrintWords Go.Proofs.YthckjbmgeidkgaaDoorW.PrintLast Go.Proofs.YthckjbmgeidkgaaDoorW.PrintMore
def KS : Array Value := #[.string ⟨#[67, 80, 85]⟩, .string ⟨#[79, 83]⟩, .string ⟨#[65, 80, 80, 77, 79, 68, 69]⟩, .string ⟨#[82, 69, 83, 79, 85, 82, 67, 69]⟩, .string ⟨#[69, 86, 69, 78, 84]⟩, .string ⟨#[84, 65, 83, 75]⟩, .string ⟨#[67, 79, 85, 78, 84, 69, 82]⟩, .string ⟨#[65, 76, 65, 82, 77]⟩, .string ⟨#[73, 83, 82]⟩, .string ⟨#[77, 69, 83, 83, 65, 71, 69]⟩]
def LOS : Array Value := #[.int .i64 0, .int .i64 0, .int .i64 1, .int .i64 0, .int .i64 0, .int .i64 1, .int .i64 0, .int .i64 0, .int .i64 0, .int .i64 0]
def HIS : Array Value := #[.int .i64 1, .int .i64 1, .int .i64 8, .int .i64 64, .int .i64 256, .int .i64 256, .int .i64 16, .int .i64 64, .int .i64 32, .int .i64 64]
theorem alloc5 (w : World) (o0 o1 o2 o3 o4 : Obj) : (((((w.alloc o0).alloc o1).alloc o2).alloc o3).alloc o4).heap[w.heap.size]? = some o0 ∧ (((((w.alloc o0).alloc o1).alloc o2).alloc o3).alloc o4).heap[w.heap.size + 1]? = some o1 ∧ (((((w.alloc o0).alloc o1).alloc o2).alloc o3).alloc o4).heap[w.heap.size + 1 + 1]? = some o2 ∧ (((((w.alloc o0).alloc o1).alloc o2).alloc o3).alloc o4).heap[w.heap.size + 1 + 1 + 1]? = some o3 ∧ (((((w.alloc o0).alloc o1).alloc o2).alloc o3).alloc o4).heap[w.heap.size + 1 + 1 + 1 + 1]? = some o4 := by
  refine ⟨?_, ?_, ?_, ?_, ?_⟩
  · rw [heap_alloc_old _ _ (by simp only [World.size_alloc]; omega)]; rw [heap_alloc_old _ _ (by simp only [World.size_alloc]; omega)]; rw [heap_alloc_old _ _ (by simp only [World.size_alloc]; omega)]; rw [heap_alloc_old _ _ (by simp only [World.size_alloc]; omega)]; exact al_new _ _ _ (by simp only [World.size_alloc])
  · rw [heap_alloc_old _ _ (by simp only [World.size_alloc]; omega)]; rw [heap_alloc_old _ _ (by simp only [World.size_alloc]; omega)]; rw [heap_alloc_old _ _ (by simp only [World.size_alloc]; omega)]; exact al_new _ _ _ (by simp only [World.size_alloc])
  · rw [heap_alloc_old _ _ (by simp only [World.size_alloc]; omega)]; rw [heap_alloc_old _ _ (by simp only [World.size_alloc]; omega)]; exact al_new _ _ _ (by simp only [World.size_alloc])
  · rw [heap_alloc_old _ _ (by simp only [World.size_alloc]; omega)]; exact al_new _ _ _ (by simp only [World.size_alloc])
  · exact al_new _ _ _ (by simp only [World.size_alloc])
theorem add_eq0 (b m : Nat) : (⟨b, 0, none⟩ : Addr).add m = ⟨b, m, none⟩ := by unfold Addr.add; split <;> simp_all
/-- a kind as the document's table has it -/
structure KR (k : Nat) (K : Kind) : Prop where
  nm : NamesOf K
  one : OneOf K
  word : KS[k]? = some (.string K.word)
  lo : ∃ lo : Int, LOS[k]? = some (.int .i64 lo) ∧ ∀ c, ((K.n c : Int) < lo) ↔ ((K.n c : Int) < K.lo)
  hi : HIS[k]? = some (.int .i64 K.hi)
  bd : ∀ c, Bd c → K.n c ≤ 8796093022208
  sz : ∀ c, NamOk c → ∀ x ∈ nmL K c, x.size ≤ 140737488355328
theorem kr0 : KR 0 kind0 := ⟨names0, one0, rfl, ⟨0, rfl, fun c => by unfold kind0; simp <;> omega⟩, rfl, kind0_ok.bd, fun c hn x hx => by simp [nmL, kind0] at hx; subst hx; exact hn.cpu⟩
theorem kr1 : KR 1 kind1 := ⟨names1, one1, rfl, ⟨0, rfl, fun c => by unfold kind1; simp <;> omega⟩, rfl, kind1_ok.bd, fun c hn x hx => by simp [nmL, kind1] at hx; subst hx; exact hn.os⟩
theorem kr2 : KR 2 kind2 := ⟨names2, one2, rfl, ⟨1, rfl, fun c => by unfold kind2; simp⟩, rfl, kind2_ok.bd, fun c hn x hx => by
    obtain ⟨i, hi, rfl⟩ := List.mem_map.mp hx
    have hi : i < c.f2.length := List.mem_range.mp hi
    exact (hn.m _ (getD_mem hi))⟩
theorem kr3 : KR 3 kind3 := ⟨names3, one3, rfl, ⟨0, rfl, fun c => by unfold kind3; simp⟩, rfl, kind3_ok.bd, fun c hn x hx => by
    obtain ⟨i, hi, rfl⟩ := List.mem_map.mp hx
    have hi : i < c.f4.length := List.mem_range.mp hi
    exact (hn.r _ (getD_mem hi))⟩
theorem kr4 : KR 4 kind4 := ⟨names4, one4, rfl, ⟨0, rfl, fun c => by unfold kind4; simp⟩, rfl, kind4_ok.bd, fun c hn x hx => by
    obtain ⟨i, hi, rfl⟩ := List.mem_map.mp hx
    have hi : i < c.f5.length := List.mem_range.mp hi
    exact (hn.e _ (getD_mem hi))⟩
theorem kr5 : KR 5 kind5 := ⟨names5, one5, rfl, ⟨1, rfl, fun c => by unfold kind5; simp⟩, rfl, kind5_ok.bd, fun c hn x hx => by
    obtain ⟨i, hi, rfl⟩ := List.mem_map.mp hx
    have hi : i < c.f3.length := List.mem_range.mp hi
    exact (hn.t _ (getD_mem hi))⟩
theorem kr6 : KR 6 kind6 := ⟨names6, one6, rfl, ⟨0, rfl, fun c => by unfold kind6; simp⟩, rfl, kind6_ok.bd, fun c hn x hx => by
    obtain ⟨i, hi, rfl⟩ := List.mem_map.mp hx
    have hi : i < c.f6.length := List.mem_range.mp hi
    exact (hn.x _ (getD_mem hi))⟩
theorem kr7 : KR 7 kind7 := ⟨names7, one7, rfl, ⟨0, rfl, fun c => by unfold kind7; simp⟩, rfl, kind7_ok.bd, fun c hn x hx => by
    obtain ⟨i, hi, rfl⟩ := List.mem_map.mp hx
    have hi : i < c.f7.length := List.mem_range.mp hi
    exact (hn.a _ (getD_mem hi)).1⟩
theorem kr8 : KR 8 kind8 := ⟨names8, one8, rfl, ⟨0, rfl, fun c => by unfold kind8; simp⟩, rfl, kind8_ok.bd, fun c hn x hx => by
    obtain ⟨i, hi, rfl⟩ := List.mem_map.mp hx
    have hi : i < c.f8.length := List.mem_range.mp hi
    exact (hn.i _ (getD_mem hi))⟩
theorem kr9 : KR 9 kind9 := ⟨names9, one9, rfl, ⟨0, rfl, fun c => by unfold kind9; simp⟩, rfl, kind9_ok.bd, fun c hn x hx => by
    obtain ⟨i, hi, rfl⟩ := List.mem_map.mp hx
    have hi : i < c.f9.length := List.mem_range.mp hi
    exact (hn.g _ (getD_mem hi)).1⟩
theorem kr_at (k : Nat) (K : Kind) (h : kinds[k]? = some K) : KR k K := by
  rcases k with _ | _ | _ | _ | _ | _ | _ | _ | _ | _ | k
  · injection h with h
    subst h
    exact kr0
  · injection h with h
    subst h
    exact kr1
  · injection h with h
    subst h
    exact kr2
  · injection h with h
    subst h
    exact kr3
  · injection h with h
    subst h
    exact kr4
  · injection h with h
    subst h
    exact kr5
  · injection h with h
    subst h
    exact kr6
  · injection h with h
    subst h
    exact kr7
  · injection h with h
    subst h
    exact kr8
  · injection h with h
    subst h
    exact kr9
  · simp [kinds] at h
theorem nmL_len (K : Kind) (c : S33) : (nmL K c).length = K.n c := by simp [nmL]
theorem nmL_at (K : Kind) (c : S33) (i : Nat) (h : i < K.n c) : (nmL K c).getD i ⟨#[]⟩ = K.nm c i := by simp [nmL, h]
theorem nmL_take (K : Kind) (c : S33) (i : Nat) (h : i < K.n c) : (nmL K c).take i = (List.range i).map (K.nm c) := by
  unfold nmL
  rw [← List.map_take, List.take_range, Nat.min_eq_left (by omega)]
theorem objV_named (K : Kind) (c : S33) (i : Nat) (h : i < K.n c) : objV K.nm K.Es c i = if namedV (nmL K c) i ≠ 0 then namedV (nmL K c) i else errF K.Es c i := by
  unfold objV namedV
  rw [nmL_at K c i h, nmL_take K c i h]
  cases (nameB (K.nm c i) && !memS ((List.range i).map (K.nm c)) (K.nm c i)) <;> simp
structure RcSt (w0 wr : World) (V : CV) (c : S33) : Prop where
  bel : Below w0.heap.size w0 wr
  at_ : At wr w0.heap.size V c
  res : wr.heap[w0.heap.size + 1]? = some (.cells #[.int .i64 0, .string ⟨#[]⟩, .int .i64 0] 36 (0, 0))
  ks : wr.heap[w0.heap.size + 1 + 1]? = some (.cells KS 9 (0, 0))
  lo : wr.heap[w0.heap.size + 1 + 1 + 1]? = some (.cells LOS 3 (0, 0))
  hi : wr.heap[w0.heap.size + 1 + 1 + 1 + 1]? = some (.cells HIS 3 (0, 0))
theorem RcSt.below {w0 wr w1 : World} {V : CV} {c : S33} (h : RcSt w0 wr V c) (hB : Below wr.heap.size wr w1) : RcSt w0 w1 V c :=
  ⟨h.bel.trans (hB.mono h.bel.size), h.at_.below hB, (hB.block _ (blk_lt h.res)).trans h.res, (hB.block _ (blk_lt h.ks)).trans h.ks, (hB.block _ (blk_lt h.lo)).trans h.lo, (hB.block _ (blk_lt h.hi)).trans h.hi⟩
theorem rc_new (w : World) (V : CV) (c : S33) (h : Cf w V c) : RcSt w (((((w.alloc (.cells (arr V c) 33)).alloc (.cells #[.int .i64 0, .string ⟨#[]⟩, .int .i64 0] 36)).alloc (.cells KS 9)).alloc (.cells LOS 3)).alloc (.cells HIS 3)) V c := by
  obtain ⟨a0, a1, a2, a3, a4⟩ := alloc5 w (.cells (arr V c) 33) (.cells #[.int .i64 0, .string ⟨#[]⟩, .int .i64 0] 36) (.cells KS 9) (.cells LOS 3) (.cells HIS 3)
  have hB := ((((below_a2 w (.cells (arr V c) 33) (.cells #[.int .i64 0, .string ⟨#[]⟩, .int .i64 0] 36)).alloc (by simp only [World.size_alloc]; omega) (.cells KS 9)).alloc (by simp only [World.size_alloc]; omega) (.cells LOS 3)).alloc (by simp only [World.size_alloc]; omega) (.cells HIS 3))
  exact ⟨hB, ⟨a0, h.below hB⟩, a1, a2, a3, a4⟩
def retV (wr : World) (B : Nat) (cd : Int) (wd : ByteArray) (id : Int) : World := wr.setRow B #[.int .i64 cd, .string wd, .int .i64 id]
set_option maxRecDepth 1000000 in
set_option maxHeartbeats 4000000 in
theorem checkR_calls (V : CV) (c : S33) (w : World) (h : Cf w V c) (hnm : NamOk c) : Calls Tryd.prog 8 #[.agg (arr V c)] w fun e w' => e = .returned (verR c) ∧ Below w.heap.size w w' := by
  have HS := Aside0.mk (rc_new w V c h)
  have HNM := Aside0.mk hnm
  have HBD := Aside0.mk h.bd
  clear h hnm
  go_enter Tryd.func8, Tryd.ntmps8
  unfold arr KS LOS HIS at *
  go_upto_region 4 with fail
  generalize ((((w.alloc (.cells #[.string c.f0, .string c.f1.f0, .bool c.f1.f1, .bool c.f1.f2, .bool c.f1.f3, .bool c.f1.f4, .bool c.f1.f5, .bool c.f1.f6, .bool c.f1.f7, .bool c.f1.f8, .slice V.a10 c.f2.length V.k10, .slice V.a11 c.f3.length V.k11, .slice V.a12 c.f4.length V.k12, .slice V.a13 c.f5.length V.k13, .slice V.a14 c.f6.length V.k14, .slice V.a15 c.f7.length V.k15, .slice V.a16 c.f8.length V.k16, .slice V.a17 c.f9.length V.k17] 33)).alloc (.cells #[.int .i64 0, .string ⟨#[]⟩, .int .i64 0] 36)).alloc (.cells #[.string ⟨#[67, 80, 85]⟩, .string ⟨#[79, 83]⟩, .string ⟨#[65, 80, 80, 77, 79, 68, 69]⟩, .string ⟨#[82, 69, 83, 79, 85, 82, 67, 69]⟩, .string ⟨#[69, 86, 69, 78, 84]⟩, .string ⟨#[84, 65, 83, 75]⟩, .string ⟨#[67, 79, 85, 78, 84, 69, 82]⟩, .string ⟨#[65, 76, 65, 82, 77]⟩, .string ⟨#[73, 83, 82]⟩, .string ⟨#[77, 69, 83, 83, 65, 71, 69]⟩] 9)).alloc (.cells #[.int .i64 0, .int .i64 0, .int .i64 1, .int .i64 0, .int .i64 0, .int .i64 1, .int .i64 0, .int .i64 0, .int .i64 0, .int .i64 0] 3)).alloc (.cells #[.int .i64 1, .int .i64 1, .int .i64 8, .int .i64 64, .int .i64 256, .int .i64 256, .int .i64 16, .int .i64 64, .int .i64 32, .int .i64 64] 3) = w1 at *
  go_wp2_with fail
  go_loopw [6] (fun kv wr => ∃ k : Nat, k ≤ 10 ∧ kv = .int .i64 k ∧ Aside0 (RcSt w wr V c) ∧ Aside0 (verV c = verF (kinds.drop k) c)) (fun kv _ => 10 - (intOf kv).toNat)
  case atStart => exact ⟨0, by omega, rfl, HS, ⟨rfl⟩⟩
  case round =>
    clear HS
    obtain ⟨k, hk, rfl, HS, HR⟩ := hrel
    by_cases hlt : k < 10
    · have hd : decide ((k : Int) < 10) = true := decide_eq_true (by omega)
      have HLT := Aside0.mk (Nat.succ_le_of_lt hlt)
      obtain ⟨Kk, hj⟩ : ∃ Kk, kinds[k]? = some Kk := ⟨_, List.getElem?_eq_getElem hlt⟩
      have HKR := Aside0.mk (kr_at k Kk hj)
      have HV := Aside0.mk (HR.out.trans (verF_drop c kinds k Kk hj))
      have y0 : wr.cell? ⟨w.heap.size + 1 + 1, k, none⟩ = some (.string Kk.word) := by have := cell_of (j := k) HS.out.ks HKR.out.word; rw [add_eq0] at this; exact this
      clear HR hj
      have HAT := Aside0.mk HS.out.at_
      have HWD := Aside0.mk HKR.out.word
      have hk10 : (k : Int) < 10 := by omega
      obtain ⟨wo, rfl⟩ : ∃ wo : World, wo = wr := ⟨_, rfl⟩
      go_wp2_with fail
      refine start_ (n := 7) (S := fun w_ => Below wo.heap.size wo w_) (ds := []) #[false, false, false, false, false, false, false] (by kernel_rfl) rfl rfl (drew_below wo) (fun hHeld => ?_)
      have HH := Aside0.mk hHeld
      clear hHeld
      generalize wo.drew = wv at HH ⊢
      refine take_ (i := 0) (N := some 19) (v := ?_) (a' := ?_) #[true, false, false, false, false, false, false] rfl rfl (by kernel_rfl) (fun _ _ _ h => h) (Or.inl ⟨by rfl, ?_⟩) HH.out ?_ ?_
      rotate_left
      · rintro w_ s
        refine run33 (HAT.out.below s) (.tmp 1) ?_ ?_ <;> rfl
      rotate_left
      · simp only [Act.put, List.setIfInBounds_toArray, List.set_cons_zero, List.set_cons_succ, i64_w, i32_w]
        rfl
      refine pure_ (i := 1) (N := some 20) (v := ?_) (a' := ?_) #[true, true, false, false, false, false, false] rfl rfl (by kernel_rfl) (fun _ _ _ h => h) (Or.inl ⟨by rfl, ?_⟩) ?_ ?_
      rotate_left
      · intro w_
        go_simp
        with_reducible rfl
      rotate_left
      · simp only [Act.put, List.setIfInBounds_toArray, List.set_cons_zero, List.set_cons_succ, i64_w, i32_w]
        rfl
      refine pure_ (i := 2) (N := some 21) (v := ?_) (a' := ?_) #[true, true, true, false, false, false, false] rfl rfl (by kernel_rfl) (fun _ _ _ h => h) (Or.inl ⟨by rfl, ?_⟩) ?_ ?_
      rotate_left
      · intro w_
        go_simp
        with_reducible rfl
      rotate_left
      · simp only [Act.put, List.setIfInBounds_toArray, List.set_cons_zero, List.set_cons_succ, i64_w, i32_w]
        rfl
      refine pure_ (i := 3) (N := some 22) (v := ?_) (a' := ?_) #[true, true, true, true, false, false, false] rfl rfl (by kernel_rfl) (fun _ _ _ h => h) (Or.inl ⟨by rfl, ?_⟩) ?_ ?_
      rotate_left
      · intro w_
        go_simp
        with_reducible rfl
      rotate_left
      · simp only [Act.put, List.setIfInBounds_toArray, List.set_cons_zero, List.set_cons_succ, i64_w, i32_w]
        rfl
      refine take_ (i := 4) (N := some 23) (v := ?_) (a' := ?_) #[true, true, true, true, true, false, false] rfl rfl (by kernel_rfl) (fun _ _ _ h => h) (Or.inl ⟨by rfl, ?_⟩) HH.out ?_ ?_
      rotate_left
      · rintro w_ s
        have y0 := (s.cell (World.block_lt_of_cell? wo _ y0)).trans y0
        go_simp
        with_reducible rfl
      rotate_left
      · simp only [Act.put, List.setIfInBounds_toArray, List.set_cons_zero, List.set_cons_succ, i64_w, i32_w]
        rfl
      refine one_ (i := 5) (N := some 24) #[true, true, true, true, true, true, false] rfl rfl (by kernel_rfl) (by decide) (fun K hK => ?_)
      refine goes_ Tryd.func19 (by kernel_rfl) rfl #[.agg #[.string c.f0, .string c.f1.f0, .bool c.f1.f1, .bool c.f1.f2, .bool c.f1.f3, .bool c.f1.f4, .bool c.f1.f5, .bool c.f1.f6, .bool c.f1.f7, .bool c.f1.f8, .slice V.a10 c.f2.length V.k10, .slice V.a11 c.f3.length V.k11, .slice V.a12 c.f4.length V.k12, .slice V.a13 c.f5.length V.k13, .slice V.a14 c.f6.length V.k14, .slice V.a15 c.f7.length V.k15, .slice V.a16 c.f8.length V.k16, .slice V.a17 c.f9.length V.k17], .string Kk.word] (by rfl) rfl rfl (by first | rfl | (simp only [List.map_toArray, List.map_cons, List.map_nil]; rfl) | simp) ?_
      have hx := HKR.out.nm wv V c (HS.out.below HH.out).at_.cf
      unfold arr at hx
      refine hx.mono ?_
      clear hx
      rintro e wb ⟨A, cap, rfl, hcap, hC, B2⟩
      have HCC := Aside0.mk hC
      clear hC
      refine ⟨_, rfl, ?_⟩
      have HH2 := Aside0.mk (HH.out.trans (B2.mono HH.out.size))
      clear HH B2
      have HH := HH2
      clear HH2
      refine hK.out _ _ HH.out (fun _ => ?_)
      clear hK K
      refine norm_ (a' := ?_) ?_ ?_
      rotate_left
      · show Act.put _ (some 24) _ = _
        simp only [Act.put, List.setIfInBounds_toArray, List.set_cons_zero, List.set_cons_succ, i64_w, i32_w]
        rfl
      refine pure_ (i := 6) (N := some 7) (v := ?_) (a' := ?_) #[true, true, true, true, true, true, true] rfl rfl (by kernel_rfl) (fun _ _ _ h => h) (Or.inl ⟨by rfl, ?_⟩) ?_ ?_
      rotate_left
      · intro w_
        go_simp
        with_reducible rfl
      rotate_left
      · simp only [Act.put, List.setIfInBounds_toArray, List.set_cons_zero, List.set_cons_succ, i64_w, i32_w]
        rfl
      refine done_ (by kernel_rfl) ?_
      have HS2 := Aside0.mk (HS.out.below HH.out)
      have hlen := nmL_len Kk c
      have HLN := Aside0.mk hlen
      have hbn := HKR.out.bd c HBD.out
      obtain ⟨lo, hlo, hiff⟩ := HKR.out.lo
      have y0 : wb.cell? ⟨w.heap.size + 1 + 1, k, none⟩ = some (.string Kk.word) := by have := cell_of (j := k) HS2.out.ks HKR.out.word; rw [add_eq0] at this; exact this
      have y1 : wb.cell? ⟨w.heap.size + 1 + 1 + 1, k, none⟩ = some (.int .i64 lo) := by have := cell_of (j := k) HS2.out.lo hlo; rw [add_eq0] at this; exact this
      have y2 : wb.cell? ⟨w.heap.size + 1 + 1 + 1 + 1, k, none⟩ = some (.int .i64 Kk.hi) := by have := cell_of (j := k) HS2.out.hi HKR.out.hi; rw [add_eq0] at this; exact this
      have HIF := Aside0.mk (hiff c)
      have HOB := Aside0.mk (fun i (hi : i < Kk.n c) => objV_named Kk c i hi)
      have HONE := Aside0.mk HKR.out.one
      have HSZ := Aside0.mk (HKR.out.sz c HNM.out)
      have HVD := Aside0.mk (show Kk.look c = if (Kk.n c : Int) < Kk.lo ∨ Kk.hi < (Kk.n c : Int) then some (71, 0) else firstF (objV Kk.nm Kk.Es c) (Kk.n c) 0 from rfl)
      clear hlo hiff hlen HH HS HKR HAT
      generalize hN : Kk.n c = N at *
      have HNN := Aside0.mk hN
      clear hN
      generalize Kk.hi = Khi at *
      by_cases hL : (N : Int) < lo
      · have b1 : decide ((N : Int) < lo) = true := decide_eq_true hL
        have HV2 := Aside0.mk (show verV c = (71, Kk.word, 0) from by rw [HV.out, HVD.out, if_pos (.inl (HIF.out.mp hL))] <;> rfl)
        clear hL
        go_wp2_with (first | (refine store36 HS2.out.res (by rfl) (.tmp 2) (.tmp 45) (by rfl) (by rfl) (by rfl) ?_))
        have HPH := Aside0.mk (setRow_heap wb (w.heap.size + 1) _ #[.int .i64 71, .string Kk.word, .int .i64 0] 36 (0, 0) HS2.out.res)
        have HF := Aside0.mk (below_setRow HS2.out.bel (Nat.le_succ _) #[.int .i64 71, .string Kk.word, .int .i64 0])
        generalize wb.setRow (w.heap.size + 1) #[.int .i64 71, .string Kk.word, .int .i64 0] = w5 at *
        refine bodyPost_ret (results_cell_row rfl _ _ (w.heap.size + 1) 36 #[.int .i64 71, .string Kk.word, .int .i64 0] (0, 0) _ rfl HPH.out Tryd.underlying36 rfl (by kernel_rfl)) rfl ?_
        exact ⟨by unfold verR; rw [HV2.out], HF.out⟩
      · have b1 : decide ((N : Int) < lo) = false := decide_eq_false hL
        have HL1 := Aside0.mk hL
        clear hL
        by_cases hL : Khi < (N : Int)
        · have b2 : decide (Khi < (N : Int)) = true := decide_eq_true hL
          have HV2 := Aside0.mk (show verV c = (71, Kk.word, 0) from by rw [HV.out, HVD.out, if_pos (.inr hL)] <;> rfl)
          clear hL
          go_wp2_with (first | (refine store36 HS2.out.res (by rfl) (.tmp 2) (.tmp 45) (by rfl) (by rfl) (by rfl) ?_))
          have HPH := Aside0.mk (setRow_heap wb (w.heap.size + 1) _ #[.int .i64 71, .string Kk.word, .int .i64 0] 36 (0, 0) HS2.out.res)
          have HF := Aside0.mk (below_setRow HS2.out.bel (Nat.le_succ _) #[.int .i64 71, .string Kk.word, .int .i64 0])
          generalize wb.setRow (w.heap.size + 1) #[.int .i64 71, .string Kk.word, .int .i64 0] = w5 at *
          refine bodyPost_ret (results_cell_row rfl _ _ (w.heap.size + 1) 36 #[.int .i64 71, .string Kk.word, .int .i64 0] (0, 0) _ rfl HPH.out Tryd.underlying36 rfl (by kernel_rfl)) rfl ?_
          exact ⟨by unfold verR; rw [HV2.out], HF.out⟩
        · have b2 : decide (Khi < (N : Int)) = false := decide_eq_false hL
          replace HVD := Aside0.mk (show Kk.look c = firstF (objV Kk.nm Kk.Es c) N 0 from by rw [HVD.out, if_neg (fun h => h.elim (fun h => HL1.out (HIF.out.mpr h)) hL)])
          clear hL HL1 HIF y0
          go_wp2_with fail
          clear b1 b2 y1 y2
          go_loopw [8] (fun iv wr => ∃ i : Nat, i ≤ N ∧ iv = .int .i64 i ∧ Aside0 (Below wb.heap.size wb wr) ∧ Aside0 (∀ m, m < i → objV Kk.nm Kk.Es c m = 0)) (fun iv _ => N - (intOf iv).toNat)
          case atStart => exact ⟨0, by omega, rfl, ⟨Below.refl _ _⟩, ⟨fun m hm => by omega⟩⟩
          case round =>
            obtain ⟨i, hi, rfl, HW, HO⟩ := hrel
            by_cases hlti : i < N
            · have hdi : decide ((i : Int) < (N : Int)) = true := decide_eq_true (by omega)
              have HLTI := Aside0.mk (Nat.succ_le_of_lt hlti)
              have HII := Aside0.mk hlti
              have HX := Aside0.mk (HS2.out.below HW.out)
              go_wp2_with fail
              have hx := named_calls A cap (nmL Kk c) i wr (by rw [HLN.out]; exact Kd.C_below HCC.out HW.out) (by rw [HLN.out]; exact hcap) (by rw [HLN.out]; exact HII.out) HSZ.out
              rw [HLN.out] at hx
              refine hx.mono ?_
              clear hx
              rintro e w4 ⟨rfl, B4⟩
              replace HW := Aside0.mk (HW.out.trans (B4.mono HW.out.size))
              replace HX := Aside0.mk (HX.out.below B4)
              have HOI := Aside0.mk (HOB.out i HII.out)
              have y0 : w4.cell? ⟨w.heap.size + 1 + 1, k, none⟩ = some (.string Kk.word) := by have := cell_of (j := k) HX.out.ks HWD.out; rw [add_eq0] at this; exact this
              clear B4
              generalize namedV (nmL Kk c) i = nv at *
              by_cases hv : nv = 0
              · have b3 : (nv == 0) = true := by rw [beq_iff_eq]; exact hv
                have b3x : (nv != 0) = false := by rw [bne_eq_false_iff_eq]; exact hv
                replace HOI := Aside0.mk (show objV Kk.nm Kk.Es c i = errF Kk.Es c i from by rw [HOI.out, if_neg (by simp [hv])])
                clear hv
                go_wp2_with fail
                have HAT2 := Aside0.mk HX.out.at_
                refine start_ (n := 8) (S := fun w_ => Below w4.heap.size w4 w_) (ds := []) #[false, false, false, false, false, false, false, false] (by kernel_rfl) rfl rfl (drew_below w4) (fun hHeld => ?_)
                have HH := Aside0.mk hHeld
                clear hHeld
                generalize w4.drew = wv at HH ⊢
                refine take_ (i := 0) (N := some 57) (v := ?_) (a' := ?_) #[true, false, false, false, false, false, false, false] rfl rfl (by kernel_rfl) (fun _ _ _ h => h) (Or.inl ⟨by rfl, ?_⟩) HH.out ?_ ?_
                rotate_left
                · rintro w_ s
                  refine run33 (HAT2.out.below s) (.tmp 1) ?_ ?_ <;> rfl
                rotate_left
                · simp only [Act.put, List.setIfInBounds_toArray, List.set_cons_zero, List.set_cons_succ, i64_w, i32_w]
                  rfl
                refine pure_ (i := 1) (N := some 58) (v := ?_) (a' := ?_) #[true, true, false, false, false, false, false, false] rfl rfl (by kernel_rfl) (fun _ _ _ h => h) (Or.inl ⟨by rfl, ?_⟩) ?_ ?_
                rotate_left
                · intro w_
                  go_simp
                  with_reducible rfl
                rotate_left
                · simp only [Act.put, List.setIfInBounds_toArray, List.set_cons_zero, List.set_cons_succ, i64_w, i32_w]
                  rfl
                refine pure_ (i := 2) (N := some 59) (v := ?_) (a' := ?_) #[true, true, true, false, false, false, false, false] rfl rfl (by kernel_rfl) (fun _ _ _ h => h) (Or.inl ⟨by rfl, ?_⟩) ?_ ?_
                rotate_left
                · intro w_
                  go_simp
                  with_reducible rfl
                rotate_left
                · simp only [Act.put, List.setIfInBounds_toArray, List.set_cons_zero, List.set_cons_succ, i64_w, i32_w]
                  rfl
                refine pure_ (i := 3) (N := some 60) (v := ?_) (a' := ?_) #[true, true, true, true, false, false, false, false] rfl rfl (by kernel_rfl) (fun _ _ _ h => h) (Or.inl ⟨by rfl, ?_⟩) ?_ ?_
                rotate_left
                · intro w_
                  go_simp
                  with_reducible rfl
                rotate_left
                · simp only [Act.put, List.setIfInBounds_toArray, List.set_cons_zero, List.set_cons_succ, i64_w, i32_w]
                  rfl
                refine take_ (i := 4) (N := some 61) (v := ?_) (a' := ?_) #[true, true, true, true, true, false, false, false] rfl rfl (by kernel_rfl) (fun _ _ _ h => h) (Or.inl ⟨by rfl, ?_⟩) HH.out ?_ ?_
                rotate_left
                · rintro w_ s
                  have y0 := (s.cell (World.block_lt_of_cell? w4 _ y0)).trans y0
                  go_simp
                  with_reducible rfl
                rotate_left
                · simp only [Act.put, List.setIfInBounds_toArray, List.set_cons_zero, List.set_cons_succ, i64_w, i32_w]
                  rfl
                refine pure_ (i := 5) (N := some 62) (v := ?_) (a' := ?_) #[true, true, true, true, true, true, false, false] rfl rfl (by kernel_rfl) (fun _ _ _ h => h) (Or.inl ⟨by rfl, ?_⟩) ?_ ?_
                rotate_left
                · intro w_
                  go_simp
                  with_reducible rfl
                rotate_left
                · simp only [Act.put, List.setIfInBounds_toArray, List.set_cons_zero, List.set_cons_succ, i64_w, i32_w]
                  rfl
                refine one_ (i := 6) (N := some 63) #[true, true, true, true, true, true, true, false] rfl rfl (by kernel_rfl) (by decide) (fun K hK => ?_)
                refine goes_ Tryd.func21 (by kernel_rfl) rfl #[.agg #[.string c.f0, .string c.f1.f0, .bool c.f1.f1, .bool c.f1.f2, .bool c.f1.f3, .bool c.f1.f4, .bool c.f1.f5, .bool c.f1.f6, .bool c.f1.f7, .bool c.f1.f8, .slice V.a10 c.f2.length V.k10, .slice V.a11 c.f3.length V.k11, .slice V.a12 c.f4.length V.k12, .slice V.a13 c.f5.length V.k13, .slice V.a14 c.f6.length V.k14, .slice V.a15 c.f7.length V.k15, .slice V.a16 c.f8.length V.k16, .slice V.a17 c.f9.length V.k17], .string Kk.word, .int .i64 i] (by rfl) rfl rfl (by first | rfl | (simp only [List.map_toArray, List.map_cons, List.map_nil]; rfl) | simp) ?_
                have hx := HONE.out wv V c i (HX.out.below HH.out).at_.cf HNM.out (by rw [HNN.out]; exact HII.out)
                unfold arr at hx
                refine hx.mono ?_
                clear hx
                rintro e wc ⟨rfl, B2⟩
                refine ⟨_, rfl, ?_⟩
                have HH2 := Aside0.mk (HH.out.trans (B2.mono HH.out.size))
                clear HH B2
                have HH := HH2
                clear HH2
                refine hK.out _ _ HH.out (fun _ => ?_)
                clear hK K
                refine norm_ (a' := ?_) ?_ ?_
                rotate_left
                · show Act.put _ (some 63) _ = _
                  simp only [Act.put, List.setIfInBounds_toArray, List.set_cons_zero, List.set_cons_succ, i64_w, i32_w]
                  rfl
                refine pure_ (i := 7) (N := some 9) (v := ?_) (a' := ?_) #[true, true, true, true, true, true, true, true] rfl rfl (by kernel_rfl) (fun _ _ _ h => h) (Or.inl ⟨by rfl, ?_⟩) ?_ ?_
                rotate_left
                · intro w_
                  go_simp
                  with_reducible rfl
                rotate_left
                · simp only [Act.put, List.setIfInBounds_toArray, List.set_cons_zero, List.set_cons_succ, i64_w, i32_w]
                  rfl
                refine done_ (by kernel_rfl) ?_
                replace HX := Aside0.mk (HX.out.below HH.out)
                replace HW := Aside0.mk (HW.out.trans (HH.out.mono HW.out.size))
                have y0 : wc.cell? ⟨w.heap.size + 1 + 1, k, none⟩ = some (.string Kk.word) := by have := cell_of (j := k) HX.out.ks HWD.out; rw [add_eq0] at this; exact this
                clear HH HAT2
                generalize errF Kk.Es c i = ev at *
                by_cases hv2 : ev = 0
                · have b4 : (ev != 0) = false := by rw [bne_eq_false_iff_eq]; exact hv2
                  have HEV := Aside0.mk hv2
                  clear hv2
                  go_wp2_with fail
                  go_roundw
                  case rel => exact ⟨i + 1, HLTI.out, by go_num, HW, ⟨fun m hm => by
                    rcases Nat.lt_succ_iff_lt_or_eq.mp hm with h1 | rfl
                    · exact HO.out m h1
                    · rw [HOI.out]; exact HEV.out⟩⟩
                  case measure => have := HLTI.out; simp [intOf]; omega
                · have b4 : (ev != 0) = true := by rw [bne_iff_ne]; exact hv2
                  have HV2 := Aside0.mk (show verV c = (ev, Kk.word, (i : Int)) from by rw [HV.out, HVD.out, firstF_some _ N i HII.out HO.out (by rw [HOI.out]; exact hv2), HOI.out] <;> rfl)
                  clear hv2
                  go_wp2_with (first | (refine store36 HX.out.res (by rfl) (.tmp 2) (.tmp 72) (by rfl) (by rfl) (by rfl) ?_))
                  have HPH := Aside0.mk (setRow_heap wc (w.heap.size + 1) _ #[.int .i64 ev, .string Kk.word, .int .i64 i] 36 (0, 0) HX.out.res)
                  have HF := Aside0.mk (below_setRow HX.out.bel (Nat.le_succ _) #[.int .i64 ev, .string Kk.word, .int .i64 i])
                  generalize wc.setRow (w.heap.size + 1) #[.int .i64 ev, .string Kk.word, .int .i64 i] = w5 at *
                  refine bodyPost_ret (results_cell_row rfl _ _ (w.heap.size + 1) 36 #[.int .i64 ev, .string Kk.word, .int .i64 i] (0, 0) _ rfl HPH.out Tryd.underlying36 rfl (by kernel_rfl)) rfl ?_
                  exact ⟨by unfold verR; rw [HV2.out], HF.out⟩
              · have b3 : (nv == 0) = false := by rw [beq_eq_false_iff_ne]; exact hv
                have b3x : (nv != 0) = true := by rw [bne_iff_ne]; exact hv
                have HV2 := Aside0.mk (show verV c = (nv, Kk.word, (i : Int)) from by rw [HV.out, HVD.out, firstF_some _ N i HII.out HO.out (by rw [HOI.out, if_pos hv]; exact hv), HOI.out, if_pos hv] <;> rfl)
                clear hv
                go_wp2_with (first | (refine store36 HX.out.res (by rfl) (.tmp 2) (.tmp 72) (by rfl) (by rfl) (by rfl) ?_))
                have HPH := Aside0.mk (setRow_heap w4 (w.heap.size + 1) _ #[.int .i64 nv, .string Kk.word, .int .i64 i] 36 (0, 0) HX.out.res)
                have HF := Aside0.mk (below_setRow HX.out.bel (Nat.le_succ _) #[.int .i64 nv, .string Kk.word, .int .i64 i])
                generalize w4.setRow (w.heap.size + 1) #[.int .i64 nv, .string Kk.word, .int .i64 i] = w5 at *
                refine bodyPost_ret (results_cell_row rfl _ _ (w.heap.size + 1) 36 #[.int .i64 nv, .string Kk.word, .int .i64 i] (0, 0) _ rfl HPH.out Tryd.underlying36 rfl (by kernel_rfl)) rfl ?_
                exact ⟨by unfold verR; rw [HV2.out], HF.out⟩
            · have hdi : decide ((i : Int) < (N : Int)) = false := decide_eq_false (by omega)
              have HV2 := Aside0.mk (show verV c = verF (kinds.drop (k + 1)) c from by rw [HV.out, HVD.out, firstF_none _ N (fun j hj => HO.out j (by omega))] <;> rfl)
              go_wp2_with fail
              go_roundw
              case rel => exact ⟨k + 1, HLT.out, by go_num, ⟨HS2.out.below HW.out⟩, HV2⟩
              case measure => have := HLT.out; simp [intOf]; omega
    · have hd : decide ((k : Int) < 10) = false := decide_eq_false (by omega)
      have HV := Aside0.mk (show verV c = (0, ⟨#[]⟩, 0) from by rw [HR.out, show k = 10 by omega]; rfl)
      clear HR
      go_wp2_with (first | (refine store36 HS.out.res (by rfl) (.tmp 2) (.tmp 73) (by rfl) (by rfl) (by rfl) ?_))
      have HPH := Aside0.mk (setRow_heap wr (w.heap.size + 1) _ #[.int .i64 0, .string ⟨#[]⟩, .int .i64 0] 36 (0, 0) HS.out.res)
      have HF := Aside0.mk (below_setRow HS.out.bel (Nat.le_succ _) #[.int .i64 0, .string ⟨#[]⟩, .int .i64 0])
      generalize wr.setRow (w.heap.size + 1) #[.int .i64 0, .string ⟨#[]⟩, .int .i64 0] = w5 at *
      refine bodyPost_ret (results_cell_row rfl _ _ (w.heap.size + 1) 36 #[.int .i64 0, .string ⟨#[]⟩, .int .i64 0] (0, 0) _ rfl HPH.out Tryd.underlying36 rfl (by kernel_rfl)) rfl ?_
      exact ⟨by unfold verR; rw [HV.out], HF.out⟩
end Go.Proofs.YthckjbmgeidkgaaDoor.XA
/- the document's May (23), Class (11). -/
namespace Go.Proofs.YthckjbmgeidkgaaDoor.XA
set_option linter.unusedVariables false
set_option linter.unusedSimpArgs false
open Go.RowKit Go.WideMaps Go.Maps Go.Proofs.YthckjbmgeidkgaaDoorW.PrintWords Go.Proofs.YthckjbmgeidkgaaDoorW.PrintLast Go.Proofs.YthckjbmgeidkgaaDoorW.PrintMore
theorem checkR_v (V : CV) (c : S33) (w : World) (h : Cf w V c) (hn : NamOk c) : Calls Tryd.prog 8 #[.agg (arr V c)] w fun e w' => e = .returned (vA (verV c)) ∧ Below w.heap.size w w' := checkR_calls V c w h hn
set_option maxRecDepth 1000000 in
set_option maxHeartbeats 4000000 in
theorem may_calls (V : CV) (c : S33) (w : World) (h : Cf w V c) (hn : NamOk c) : Calls Tryd.prog 23 #[.agg (arr V c)] w fun e w' => e = .returned (.bool (eqV (verV c) okVer)) ∧ Below w.heap.size w w' := by
  have HA := Aside0.mk (At.made h)
  have HB := Aside0.mk (below_a w (.cells (arr V c) 33))
  have HN := Aside0.mk hn
  clear h hn
  go_enter Tryd.func23, Tryd.ntmps23
  unfold arr at *
  go_wp2_with (refine load33 HA.out rfl (.tmp 1) rfl rfl ?_)
  generalize w.alloc (.cells #[.string c.f0, .string c.f1.f0, .bool c.f1.f1, .bool c.f1.f2, .bool c.f1.f3, .bool c.f1.f4, .bool c.f1.f5, .bool c.f1.f6, .bool c.f1.f7, .bool c.f1.f8, .slice V.a10 c.f2.length V.k10, .slice V.a11 c.f3.length V.k11, .slice V.a12 c.f4.length V.k12, .slice V.a13 c.f5.length V.k13, .slice V.a14 c.f6.length V.k14, .slice V.a15 c.f7.length V.k15, .slice V.a16 c.f8.length V.k16, .slice V.a17 c.f9.length V.k17] 33) = w1 at *
  have hck := checkR_v V c w1 HA.out.cf HN.out
  unfold arr at hck
  refine hck.mono ?_
  clear hck
  rintro e w2 ⟨rfl, B2⟩
  have HB2 := Aside0.mk (HB.out.trans (B2.mono HB.out.size))
  clear B2 HA HB
  go_wp2_with (refine Kd.event_run rfl (v := .bool (eqV (verV c) okVer)) (run_eq36 _ (verV c) okVer (.tmp 4) (.tmp 5) rfl rfl rfl) ?_)
  go_ret
  exact ⟨rfl, HB2.out⟩
/-- alone, as far as j -/
def aloneB (ts : List S49) (i j : Nat) : Bool := (ts.getD i z49).f3 == 1 && (List.range j).all fun m => (ts.getD m z49).f1 != (ts.getD i z49).f1
theorem alone_succ (ts : List S49) (i j : Nat) : aloneB ts i (j + 1) = (aloneB ts i j && (ts.getD j z49).f1 != (ts.getD i z49).f1) := by
  unfold aloneB
  rw [List.range_succ, List.all_append]
  simp [Bool.and_assoc]
theorem alone_one (ts : List S49) (i : Nat) : aloneB ts i i = oneB ts i := by
  unfold aloneB oneB
  congr 1
  rw [cntP_succ]
  simp only [if_true]
  have h := cntP_le ts i (ts.getD i z49).f1
  by_cases h0 : cntP ts i (ts.getD i z49).f1 = 0
  · rw [h0]
    have : (List.range i).filter (fun k => (ts.getD k z49).f1 == (ts.getD i z49).f1) = [] := by
      unfold cntP at h0
      exact List.length_eq_zero_iff.mp (by omega)
    rw [List.filter_eq_nil_iff] at this
    rw [show ((0 : Int) + 1 == 1) = true from rfl, List.all_eq_true]
    intro m hm
    have := this m hm
    simpa using this
  · rw [show (cntP ts i (ts.getD i z49).f1 + 1 == 1) = false from by rw [beq_eq_false_iff_ne]; omega]
    rw [List.all_eq_false]
    have : (List.range i).filter (fun k => (ts.getD k z49).f1 == (ts.getD i z49).f1) ≠ [] := by
      intro he
      unfold cntP at h0
      rw [he] at h0
      exact h0 rfl
    obtain ⟨m, hm⟩ := List.exists_mem_of_ne_nil _ this
    obtain ⟨h1, h2⟩ := List.mem_filter.mp hm
    exact ⟨m, h1, by rw [bne, h2]; simp⟩
def kExt (ts : List S49) (i : Nat) : Int := if extd ts i then 3 else 1
theorem kExt_same {ts : List S49} {i : Nat} (h : extd ts (i + 1) = extd ts i) : kExt ts (i + 1) = kExt ts i := by unfold kExt; rw [h]
theorem kExt_yes {ts : List S49} {i : Nat} (h : extd ts i = true) : kExt ts i = 3 := by unfold kExt; rw [h]; rfl
structure ClrSt (w0 wr : World) (V : CV) (c : S33) : Prop where
  bel : Below w0.heap.size w0 wr
  at_ : At wr w0.heap.size V c
theorem ClrSt.below {w0 wr w1 : World} {V : CV} {c : S33} (h : ClrSt w0 wr V c) (hB : Below wr.heap.size wr w1) : ClrSt w0 w1 V c := ⟨h.bel.trans (hB.mono h.bel.size), h.at_.below hB⟩
theorem single_pre {ts : List S49} {n i : Nat} (hi : i < n) (h : oneB ts i = false) : single ts n = false := by
  unfold single
  rw [List.all_eq_false]
  exact ⟨i, List.mem_range.mpr hi, by simp [h]⟩
set_option maxRecDepth 1000000 in
set_option maxHeartbeats 4000000 in
theorem classR_calls (V : CV) (c : S33) (w : World) (h : Cf w V c) (hn : NamOk c) : Calls Tryd.prog 11 #[.agg (arr V c)] w fun e w' => e = .returned (.tuple #[.int .i64 (classV c).1, .int .i64 (classV c).2]) ∧ Below w.heap.size w w' := by
  have HA := Aside0.mk (At.made h)
  have HB := Aside0.mk (below_a w (.cells (arr V c) 33))
  have HN := Aside0.mk hn
  have hlen := h.bd.t
  clear h hn
  go_enter Tryd.func11, Tryd.ntmps11
  unfold arr at *
  go_wp2_with (refine load33 HA.out rfl (.tmp 1) rfl rfl ?_)
  generalize w.alloc (.cells #[.string c.f0, .string c.f1.f0, .bool c.f1.f1, .bool c.f1.f2, .bool c.f1.f3, .bool c.f1.f4, .bool c.f1.f5, .bool c.f1.f6, .bool c.f1.f7, .bool c.f1.f8, .slice V.a10 c.f2.length V.k10, .slice V.a11 c.f3.length V.k11, .slice V.a12 c.f4.length V.k12, .slice V.a13 c.f5.length V.k13, .slice V.a14 c.f6.length V.k14, .slice V.a15 c.f7.length V.k15, .slice V.a16 c.f8.length V.k16, .slice V.a17 c.f9.length V.k17] 33) = w1 at *
  have hck := may_calls V c w1 HA.out.cf HN.out
  unfold arr at hck
  refine hck.mono ?_
  clear hck
  rintro e w2 ⟨rfl, B2⟩
  have HS := Aside0.mk (show ClrSt w w2 V c from ⟨HB.out.trans (B2.mono HB.out.size), HA.out.below B2⟩)
  have HCV := Aside0.mk (show classV c = if eqV (verV c) okVer then (classK c.f3, 0) else (0, 2) from rfl)
  clear B2 HA HB
  rcases he : eqV (verV c) okVer with _ | _
  · have HX := Aside0.mk (show classV c = (0, 2) from by rw [HCV.out, he]; rfl)
    clear HCV
    go_wp2_with fail
    go_ret2
    exact ⟨by rw [HX.out] <;> rfl, HS.out.bel⟩
  · have HX := Aside0.mk (show classV c = (classK c.f3, 0) from by rw [HCV.out, he]; rfl)
    clear HCV
    go_wp2_with fail
    clear he
    go_loopw [4, 5] (fun kv iv wr => ∃ i : Nat, i ≤ c.f3.length ∧ iv = .int .i64 i ∧ kv = .int .i64 (kExt c.f3 i) ∧ Aside0 (ClrSt w wr V c)) (fun _ iv _ => c.f3.length - (intOf iv).toNat)
    case atStart => exact ⟨0, by omega, rfl, rfl, HS⟩
    case round =>
      clear HS
      obtain ⟨i, hi, rfl, rfl, HS⟩ := hrel
      have q11 := HS.out.at_.cell11
      by_cases hlt : i < c.f3.length
      · have hd : decide ((i : Int) < (c.f3.length : Int)) = true := decide_eq_true (by omega)
        have HLT := Aside0.mk (Nat.succ_le_of_lt hlt)
        have HXE := Aside0.mk (extV_at c i hlt)
        have HES := Aside0.mk (extd_succ c.f3 i)
        go_wp2_with (first | ((with_reducible refine gate_dst (N := 19) rfl ?_); refine load33 HS.out.at_ rfl (.tmp 1) rfl rfl ?_))
        have hx := ext_calls 13 (.inr rfl) V c (i : Int) wr HS.out.at_.cf
        unfold arr at hx
        refine hx.mono ?_
        clear hx
        rintro e w5 ⟨rfl, B5⟩
        have HS5 := Aside0.mk (HS.out.below B5)
        clear B5 HS
        rcases hb : extV c (i : Int) with _ | _
        · have HN2 := Aside0.mk (show extd c.f3 (i + 1) = extd c.f3 i from by rw [HES.out, ← HXE.out, hb]; simp)
          go_wp2_with fail
          go_roundw
          case rel => exact ⟨i + 1, HLT.out, by go_num, by rw [kExt_same HN2.out], HS5⟩
          case measure => have := HLT.out; simp [intOf]; omega
        · have HN2 := Aside0.mk (show extd c.f3 (i + 1) = true from by rw [HES.out, ← HXE.out, hb]; simp)
          go_wp2_with fail
          go_roundw
          case rel => exact ⟨i + 1, HLT.out, by go_num, by rw [kExt_yes HN2.out], HS5⟩
          case measure => have := HLT.out; simp [intOf]; omega
      · have hd : decide ((i : Int) < (c.f3.length : Int)) = false := decide_eq_false (by omega)
        have HKX := Aside0.mk (show classK c.f3 = if single c.f3 c.f3.length then kExt c.f3 i else kExt c.f3 i + 1 from by
          obtain rfl : i = c.f3.length := by omega
          unfold classK kExt
          generalize extd c.f3 c.f3.length = a
          generalize single c.f3 c.f3.length = b
          cases a <;> cases b <;> rfl)
        have hk0 : kExt c.f3 i = 3 ∨ kExt c.f3 i = 1 := by unfold kExt; cases extd c.f3 i <;> simp
        generalize kExt c.f3 i = kk at *
        have hw : IntKind.i64.wrap (kk + 1) = kk + 1 := IntWalk.i64_in _ (by omega)
        have hkr : 0 ≤ kk ∧ kk ≤ 3 := by omega
        obtain ⟨hkr0, hkr1⟩ := hkr
        clear hk0
        go_wp2_with fail
        clear hd hlt hi q11
        go_loopw [6] (fun iv wr => ∃ i : Nat, i ≤ c.f3.length ∧ iv = .int .i64 i ∧ Aside0 (single c.f3 i = true) ∧ Aside0 (ClrSt w wr V c)) (fun iv _ => c.f3.length - (intOf iv).toNat)
        case atStart => exact ⟨0, by omega, rfl, ⟨rfl⟩, HS⟩
        case round =>
          clear HS
          obtain ⟨i, hi, rfl, HSG, HS⟩ := hrel
          have q11 := HS.out.at_.cell11
          by_cases hlt : i < c.f3.length
          · have hd : decide ((i : Int) < (c.f3.length : Int)) = true := decide_eq_true (by omega)
            have HLT := Aside0.mk (Nat.succ_le_of_lt hlt)
            have HII := Aside0.mk hlt
            obtain ⟨t, ad, A4, c4, A5, c5, A6, c6, A7, c7, ht, e11, HA, _⟩ := task_at HS.out.at_.cf.t i hlt
            have HE11 := Aside0.mk e11
            have HT := Aside0.mk ht
            have g3 := HA.g3
            have HTA := Aside0.mk HA
            rw [e11] at q11
            have HA0 := Aside0.mk (show aloneB c.f3 i 0 = (t.f3 == 1) from by unfold aloneB; rw [ht]; simp)
            clear e11 ht HA
            go_wp2_with fail
            obtain ⟨wo, rfl⟩ : ∃ wo : World, wo = wr := ⟨_, rfl⟩
            go_loopw [7, 8] (fun av jv wr => ∃ (j : Nat), j ≤ i ∧ jv = .int .i64 j ∧ av = .bool (aloneB c.f3 i j) ∧ Aside0 (Below wo.heap.size wo wr)) (fun _ jv _ => i - (intOf jv).toNat)
            case atStart => exact ⟨0, by omega, rfl, by rw [HA0.out], ⟨Below.refl _ _⟩⟩
            case round =>
              obtain ⟨j, hj, rfl, rfl, HW⟩ := hrel
              replace q11 := (HS.out.below HW.out).at_.cell11
              by_cases hltj : j < i
              · have hdj : decide ((j : Int) < (i : Int)) = true := decide_eq_true (by omega)
                have HLTJ := Aside0.mk (Nat.succ_le_of_lt hltj)
                have hjl : j < c.f3.length := by omega
                obtain ⟨u, ad2, E4, f4, E5, f5, E6, f6, E7, f7, hu, e2, HU, _⟩ := task_at (HS.out.below HW.out).at_.cf.t j hjl
                obtain rfl : ad2 = ad := by
                  have := HE11.out.symm.trans e2
                  injection this with this
                  exact this.symm
                rw [e2] at q11
                have k1 := HU.g1
                have t1 := (HTA.out.below HW.out).g1
                have HAS := Aside0.mk (alone_succ c.f3 i j)
                rw [hu, HT.out] at HAS
                clear hu e2 HU
                generalize u.f1 = up at *
                generalize t.f1 = tp at *
                generalize hab : aloneB c.f3 i j = ab at *
                clear hab
                go_wp2_with fail
                rcases ab with _ | _
                · go_quiet (fail)
                  go_wp2_with fail
                  go_roundw
                  case rel => exact ⟨j + 1, HLTJ.out, by go_num, by rw [HAS.out]; rfl, ⟨HW.out.trans ((drewN_below _ _).mono HW.out.size)⟩⟩
                  case measure => have := HLTJ.out; simp [intOf]; omega
                · go_quiet (fail)
                  go_wp2_with fail
                  go_roundw
                  case rel => exact ⟨j + 1, HLTJ.out, by go_num, by rw [HAS.out]; simp, ⟨HW.out.trans ((drewN_below _ _).mono HW.out.size)⟩⟩
                  case measure => have := HLTJ.out; simp [intOf]; omega
              · have hdj : decide ((j : Int) < (i : Int)) = false := decide_eq_false (by omega)
                obtain rfl : i = j := by omega
                have HAO := Aside0.mk (alone_one c.f3 i)
                have HSS := Aside0.mk (single_succ c.f3 i)
                rw [HAO.out]
                rcases hob : oneB c.f3 i with _ | _
                · have HK := Aside0.mk (show classV c = (kk + 1, 0) from by rw [HX.out, HKX.out, single_pre HII.out hob]; rfl)
                  go_wp2_with fail
                  go_ret2
                  exact ⟨by rw [HK.out] <;> rfl, HS.out.bel.trans (HW.out.mono HS.out.bel.size)⟩
                · have HSN := Aside0.mk (show single c.f3 (i + 1) = true from by rw [HSS.out, HSG.out, hob]; rfl)
                  go_wp2_with fail
                  go_roundw
                  case rel => exact ⟨i + 1, HLT.out, by go_num, HSN, ⟨HS.out.below HW.out⟩⟩
                  case measure => have := HLT.out; simp [intOf]; omega
          · have hd : decide ((i : Int) < (c.f3.length : Int)) = false := decide_eq_false (by omega)
            have HK := Aside0.mk (show classV c = (kk, 0) from by rw [HX.out, HKX.out, show c.f3.length = i by omega, HSG.out]; rfl)
            go_wp2_with fail
            go_ret2
            exact ⟨by rw [HK.out] <;> rfl, HS.out.bel⟩
end Go.Proofs.YthckjbmgeidkgaaDoor.XA
