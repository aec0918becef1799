/- what the rows need besides, reckoned: no program in sight. -/
import Derived.Test.YtbgcemijihpakaaG08
import Derived.Test.YtbgcemijihpakaaG04
section
namespace Go.Proofs.Ytbgcemijihpakaa.XA
set_option linter.unusedVariables false
set_option linter.unusedSimpArgs false
open Go.RowKit Go.WideMaps Go.Maps Go.Proofs.YtbgcemijihpakaaW.PrintWords Go.Proofs.YtbgcemijihpakaaW.PrintLast Go.Proofs.YtbgcemijihpakaaW.PrintMore
def bump (cs : List Int) (c : Int) : List Int := cs.set c.toNat (rdOf 0 cs c + 1)
def top (m : Int) (cs : List Int) : Int := cs.foldl mx m
def cnt (n : Nat) (ks : List Int) : List Int := ks.foldl bump (List.replicate n 0)
def kA (l : List S102) : List Int := l.map (·.f0)
def kM (l : List S113) : List Int := (l.filter (·.f0 != 1)).map (·.f2)
def bA (l : List S102) : Int := ((l.filter (·.f1.f0 == 3)).length : Int)
def bM (l : List S113) : Int := ((l.filter (·.f5.f0 == 3)).length : Int)
theorem cnt_snoc (n : Nat) (ks : List Int) (c : Int) : cnt n (ks ++ [c]) = bump (cnt n ks) c := by
 unfold cnt
 rw [List.foldl_append]
 rfl
theorem bump_len (cs : List Int) (c : Int) : (bump cs c).length = cs.length := by unfold bump; simp
theorem fold_len (ks : List Int) : ∀ cs : List Int, (ks.foldl bump cs).length = cs.length := by
 induction ks with
 | nil => intro cs; rfl
 | cons k ks ih => intro cs; rw [List.foldl_cons, ih, bump_len]
theorem cnt_len (n : Nat) (ks : List Int) : (cnt n ks).length = n := by unfold cnt; rw [fold_len]; simp
theorem rdOf_mem {cs : List Int} {c : Int} {b : Int} (h : ∀ x ∈ cs, 0 ≤ x ∧ x ≤ b) (hb : 0 ≤ b) : 0 ≤ rdOf 0 cs c ∧ rdOf 0 cs c ≤ b := by
 unfold rdOf
 rw [List.getD_eq_getElem?_getD]
 rcases hc : cs[c.toNat]? with _ | x
 ·simp; omega
 ·have hm := h x (List.mem_of_getElem? hc)
  simpa using hm
theorem fold_bd (ks : List Int) : ∀ (cs : List Int) (b : Int), 0 ≤ b → (∀ x ∈ cs, 0 ≤ x ∧ x ≤ b) → ∀ x ∈ ks.foldl bump cs, 0 ≤ x ∧ x ≤ b + ks.length := by
 induction ks with
 | nil => intro cs b _ h x hx; have := h x hx; simp; omega
 | cons k ks ih =>
  intro cs b hb h x hx
  rw [List.foldl_cons] at hx
  have h1 := ih (bump cs k) (b + 1) (by omega) (fun y hy => by
   unfold bump at hy
   rcases List.mem_or_eq_of_mem_set hy with hy | hy
   ·have := h y hy; omega
   ·have := rdOf_mem (c := k) h hb; omega) x hx
  simp only [List.length_cons]
  omega
theorem cnt_bd (n : Nat) (ks : List Int) (c : Int) : 0 ≤ rdOf 0 (cnt n ks) c ∧ rdOf 0 (cnt n ks) c ≤ ks.length := by
 refine rdOf_mem (fun x hx => ?_) (by omega)
 have := fold_bd ks (List.replicate n 0) 0 (by omega) (fun y hy => by have := (List.mem_replicate.mp hy).2; omega) x hx
 omega
theorem top_le (cs : List Int) : ∀ (m b : Int), top m cs ≤ b ↔ m ≤ b ∧ ∀ x ∈ cs, x ≤ b := by
 induction cs with
 | nil => intro m b; simp [top]
 | cons y cs ih =>
  intro m b
  show top (mx m y) cs ≤ b ↔ _
  rw [ih, List.forall_mem_cons]
  unfold mx
  constructor
  ·rintro ⟨h1, h2⟩; split at h1 <;> exact ⟨by omega, by omega, h2⟩
  ·rintro ⟨h1, h2, h3⟩; refine ⟨?_, h3⟩; split <;> omega
theorem top_bump (m : Int) (cs : List Int) (c : Int) (h0 : 0 ≤ c) (h1 : c < cs.length) : top m (bump cs c) = mx (top m cs) (rdOf 0 cs c + 1) := by
 have e : ∀ b, top m (bump cs c) ≤ b ↔ mx (top m cs) (rdOf 0 cs c + 1) ≤ b := by
  intro b
  have hr : rdOf 0 cs c ∈ cs := by unfold rdOf; exact getD_mem (by omega)
  rw [top_le]
  have hmx : mx (top m cs) (rdOf 0 cs c + 1) ≤ b ↔ top m cs ≤ b ∧ rdOf 0 cs c + 1 ≤ b := by unfold mx; split <;> omega
  rw [hmx, top_le]
  unfold bump
  constructor
  ·rintro ⟨g1, g2⟩
   have g3 : rdOf 0 cs c + 1 ≤ b := g2 _ (List.mem_iff_getElem.mpr ⟨c.toNat, by simp; omega, by simp⟩)
   refine ⟨⟨g1, fun x hx => ?_⟩, g3⟩
   obtain ⟨i, hi, rfl⟩ := List.getElem_of_mem hx
   by_cases hic : i = c.toNat
   ·subst hic
    have : rdOf 0 cs c = cs[c.toNat] := by unfold rdOf; rw [List.getD_eq_getElem?_getD, List.getElem?_eq_getElem hi]; rfl
    omega
   ·exact g2 _ (List.mem_iff_getElem.mpr ⟨i, by simpa using hi, by rw [List.getElem_set_ne (fun e => hic e.symm)]⟩)
  ·rintro ⟨⟨g1, g2⟩, g3⟩
   refine ⟨g1, fun x hx => ?_⟩
   rcases List.mem_or_eq_of_mem_set hx with hx | hx
   ·exact g2 x hx
   ·omega
 have e1 := (e _).mp (Int.le_refl _)
 have e2 := (e _).mpr (Int.le_refl _)
 omega
theorem top_ge (m : Int) (cs : List Int) : m ≤ top m cs := ((top_le cs m _).mp (Int.le_refl _)).1
theorem take_snoc {α : Type} (l : List α) (k : Nat) (d : α) (h : k < l.length) : l.take (k + 1) = l.take k ++ [l.getD k d] := by
 rw [List.take_succ_eq_append_getElem h, List.getD_eq_getElem?_getD, List.getElem?_eq_getElem h]
 rfl
theorem kA_step (l : List S102) (k : Nat) (h : k < l.length) : kA (l.take (k + 1)) = kA (l.take k) ++ [(l.getD k z102).f0] := by
 rw [take_snoc l k z102 h]
 simp [kA]
theorem bA_step (l : List S102) (k : Nat) (h : k < l.length) : bA (l.take (k + 1)) = bA (l.take k) + (if (l.getD k z102).f1.f0 = 3 then 1 else 0) := by
 rw [take_snoc l k z102 h]
 unfold bA
 rw [List.filter_append, List.length_append]
 by_cases c : (l.getD k z102).f1.f0 = 3
 ·rw [List.filter_cons_of_pos (by simpa using c), if_pos c]; simp
 ·rw [List.filter_cons_of_neg (by simpa using c), if_neg c]; simp
theorem kM_step (l : List S113) (k : Nat) (h : k < l.length) : kM (l.take (k + 1)) = kM (l.take k) ++ (if (l.getD k z113).f0 = 1 then [] else [(l.getD k z113).f2]) := by
 rw [take_snoc l k z113 h]
 unfold kM
 rw [List.filter_append, List.map_append]
 by_cases c : (l.getD k z113).f0 = 1
 ·rw [List.filter_cons_of_neg (by simpa using c), if_pos c]; simp
 ·rw [List.filter_cons_of_pos (by simpa using c), if_neg c]; simp
theorem bM_step (l : List S113) (k : Nat) (h : k < l.length) : bM (l.take (k + 1)) = bM (l.take k) + (if (l.getD k z113).f5.f0 = 3 then 1 else 0) := by
 rw [take_snoc l k z113 h]
 unfold bM
 rw [List.filter_append, List.length_append]
 by_cases c : (l.getD k z113).f5.f0 = 3
 ·rw [List.filter_cons_of_pos (by simpa using c), if_pos c]; simp
 ·rw [List.filter_cons_of_neg (by simpa using c), if_neg c]; simp
theorem kA_len (l : List S102) : (kA l).length = l.length := by simp [kA]
theorem kM_len (l : List S113) : (kM l).length ≤ l.length := by unfold kM; rw [List.length_map]; exact List.length_filter_le _ _
theorem bA_bd (l : List S102) : 0 ≤ bA l ∧ bA l ≤ l.length := by unfold bA; have := List.length_filter_le (fun x : S102 => x.f1.f0 == 3) l; omega
theorem bM_bd (l : List S113) : 0 ≤ bM l ∧ bM l ≤ l.length := by unfold bM; have := List.length_filter_le (fun x : S113 => x.f5.f0 == 3) l; omega
/-- the most alarms of a counter, the most receivers of a message; two at least -/
def mostOf (t : S33) : Int := top (top 2 (cnt t.f5.length (kA t.f6))) (cnt t.f8.length (kM t.f8))
def backOf (t : S33) : Int := bA t.f6 + bM t.f8
end Go.Proofs.Ytbgcemijihpakaa.XA
end
section
namespace Go.Proofs.Ytbgcemijihpakaa.XA
set_option linter.unusedVariables false
set_option linter.unusedSimpArgs false
open Go.RowKit Go.WideMaps Go.Maps Go.Proofs.YtbgcemijihpakaaW.PrintWords Go.Proofs.YtbgcemijihpakaaW.PrintLast Go.Proofs.YtbgcemijihpakaaW.PrintMore
attribute [local go_sem] max2_int max_two
theorem grown_box {w w1 : World} {g P : Nat} {cs : Array Value} {e : TypeId} (h : w.heap[P]? = some (.cells cs e (0, 0))) (hg : w.grownBy w1 (some g)) (hne : P ≠ g) : w1.heap[P]? = some (.cells cs e (0, 0)) := (hg.block P (blk_lt h) (fun e => hne (by injection e))).trans h
theorem add_blk (p : Addr) (j : Nat) : (p.add j).block = p.block := by unfold Addr.add; split <;> rfl
theorem cells_grown {w w1 : World} {g : Nat} {p : Addr} {cs : List Value} (h : ∀ j v, cs[j]? = some v → w.cell? (p.add j) = some v) (hg : w.grownBy w1 (some g)) (hne : p.block ≠ g) : ∀ j v, cs[j]? = some v → w1.cell? (p.add j) = some v := fun j v hj => by
 have h1 := h j v hj
 have h2 := World.block_lt_of_cell? w _ h1
 rw [add_blk] at h2
 rw [← h1]
 exact World.cell?_of_block (by rw [add_blk]; exact hg.block _ h2 (fun e => hne (by injection e)))
theorem At102.grown {w w1 : World} {g : Nat} {p : Addr} {t : S102} (h : At102 w p t) (hg : w.grownBy w1 (some g)) (hne : p.block ≠ g) : At102 w1 p t := ⟨cells_grown h.cells hg hne⟩
theorem At113.grown {w w1 : World} {g : Nat} {p : Addr} {t : S113} (h : At113 w p t) (hg : w.grownBy w1 (some g)) (hne : p.block ≠ g) : At113 w1 p t := ⟨cells_grown h.cells hg hne⟩
theorem top_zeros (n : Nat) (m : Int) (h : 0 ≤ m) : top m (List.replicate n 0) = m := by
 unfold top
 induction n with
 | zero => rfl
 | succ n ih => rw [List.replicate_succ, List.foldl_cons, show mx m 0 = m from by unfold mx; rw [if_neg (by omega)]]; exact ih
theorem bump_rd {cs : List Int} {c : Int} (h0 : 0 ≤ c) (h1 : c < cs.length) : rdOf 0 (bump cs c) c = rdOf 0 cs c + 1 := by
 unfold rdOf bump
 rw [List.getD_eq_getElem?_getD, List.getElem?_set_self (by omega)]
 rfl
set_option maxRecDepth 1000000 in
set_option maxHeartbeats 4000000 in
theorem room_calls (V : TV) (t : S33) (w : World) (h : Tb w V t) (h5 : t.f5.length ≤ 1000) (h8 : t.f8.length ≤ 1000) (hA : ∀ x ∈ t.f6, 0 ≤ x.f0 ∧ x.f0 < t.f5.length) (hM : ∀ x ∈ t.f8, x.f0 ≠ 1 → 0 ≤ x.f2 ∧ x.f2 < t.f8.length) :
  Calls Try.prog 28 #[.agg (arr V t)] w fun e w' => e = .returned (.tuple #[.int .i64 t.f3.length, .int .i64 (t.f7.length + 4), .int .i64 (mostOf t), .int .i64 (backOf t)]) ∧ Below w.heap.size w w' := by
 have HS := Aside0.mk (At.made h)
 have HB := Aside0.mk (below_a w (.cells (arr V t) 33))
 have HT0 := Aside0.mk h
 have HAA := Aside0.mk hA
 have HMM := Aside0.mk hM
 have HNct := Aside0.mk h5
 have HNmg := Aside0.mk h8
 have HQ0 := Aside0.mk (show w.heap.size < (w.alloc (.cells (arr V t) 33)).heap.size by simp)
 clear h hA hM h5 h8
 unfold arr at *
 go_enter Try.func28, Try.ntmps28
 go_upto_region 1 with fail
 generalize w.alloc (.cells #[.int .i64 t.f0, .int .i64 t.f1, .slice V.a2 t.f2.length V.k2, .slice V.a3 t.f3.length V.k3, .slice V.a4 t.f4.length V.k4, .slice V.a5 t.f5.length V.k5, .slice V.a6 t.f6.length V.k6, .slice V.a7 t.f7.length V.k7, .slice V.a8 t.f8.length V.k8, .int .i64 t.f9, .int .i64 t.f10, .int .i64 t.f11, .int .i64 t.f12] 33) = w1 at *
 generalize hW : w.heap.size = B at HS ⊢
 have HW := Aside0.mk hW
 clear hW
 have q5 := HS.out.q5
 have q6 := HS.out.q6
 go_upto_region 2 with (first | ((with_reducible refine gate_dst (N := 17) rfl ?_); refine Kd.R_make (Kd.int .i64) w1.heap.size 3 rfl (N := 17) rfl 48 _ _ rfl (t.f5.length : Int) rfl rfl Try.underlying48 (.int .i64 0) 8 info3 rfl (by decide) (by omega) 0 (ok := fun _ => True) (okp := fun _ => True) rfl (fun _ hk => hk) trivial (by omega) (by have := HNct.out; simp only [Int.toNat_natCast]; omega) (Below.refl _ _) (Nat.le_refl _) ?_; intro v3 w3 HR3 HB3 HG3 HA3; clear HG3 HA3; rw [Int.toNat_natCast] at HR3; have HO := Aside0.mk HR3; have HB4 := Aside0.mk HB3; clear HR3 HB3))
 clear q5 q6
 obtain ⟨Q, hQ⟩ : ∃ Q, w1.heap.size = Q := ⟨_, rfl⟩
 have HQ := Aside0.mk (show w.heap.size < Q from by rw [← hQ]; exact HQ0.out)
 rw [hQ] at HO
 replace HS := Aside0.mk (HS.out.below HB4.out)
 replace HB := Aside0.mk (HB.out.trans (HB4.out.mono HB.out.size))
 clear HB4 hQ HQ0
 have q6 := HS.out.q6
 go_wp2_with fail
 clear q6
 generalize hA : V.a6 = A6
 have HV6 := Aside0.mk hA
 clear hA
 go_loopg [7, 8, 21] t.f6.length (fun g s7 s8 i wr => ∃ (k : Nat) (cs : List Int) (m b : Int), k ≤ t.f6.length ∧ g = t.f6.length - k ∧ i = .int .i64 k ∧ s7 = .int .i64 m ∧ s8 = .int .i64 b ∧ Aside0 (cs = cnt t.f5.length (kA (t.f6.take k))) ∧ Aside0 (m = top 2 cs) ∧ Aside0 (b = bA (t.f6.take k)) ∧ Aside0 (At wr B V t) ∧ Aside0 (Below w.heap.size w wr) ∧ Aside0 ((Kd.int .i64).R 3 wr Q (fun _ => True) v3 cs))
 case atStart => exact ⟨0, _, _, _, by omega, rfl, rfl, rfl, rfl, ⟨rfl⟩, ⟨(top_zeros _ _ (by decide)).symm⟩, ⟨rfl⟩, HS, HB, HO⟩
 case round =>
  clear HS HB HO
  obtain ⟨k, cs, m, b, hk, rfl, rfl, rfl, rfl, HCE, HM, HBK, HS, HB, HO⟩ := hrel
  have hbd := HS.out.tb.bd.al
  by_cases hlt : k < t.f6.length
  ·have hd : decide ((k : Int) < (t.f6.length : Int)) = true := decide_eq_true (by omega)
   have HV0 := Aside0.mk (HAA.out _ (getD_mem (d := z102) hlt))
   have HKS := Aside0.mk (kA_step t.f6 k hlt)
   have HBS := Aside0.mk (bA_step t.f6 k hlt)
   have HCL := Aside0.mk (show cs.length = t.f5.length from by rw [HCE.out, cnt_len])
   have HKL := Aside0.mk (show (kA (t.f6.take k)).length ≤ 140737488355328 from by rw [kA_len]; simp; omega)
   have hbb := bA_bd (t.f6.take k)
   rw [← HBK.out] at hbb
   have hbl : (t.f6.take k).length ≤ 140737488355328 := by simp; omega
   have hwb : IntKind.i64.wrap (b + 1) = b + 1 := IntWalk.i64_in _ (by omega)
   clear hbb hbl
   ·obtain ⟨x, ad, hx, e, HA⟩ := alm_at HS.out.tb.al k hlt
    obtain rfl : A6 = some ad := by rw [← HV6.out]; exact e
    have HAX := Aside0.mk HA
    have HN2 := Aside0.mk hx
    have B1 := below_a wr (.cells #[.int .i64 x.f0, .int .i64 x.f1.f0, .int .i64 x.f1.f1, .int .u32 x.f1.f2, .int .u32 x.f2, .int .u32 x.f3, .int .u32 x.f4] 102)
    have HX := Aside0.mk (At102.made wr x)
    have HLT := Aside0.mk hlt
    have HSZ := Aside0.mk (HB.out.size)
    clear hx e HA
    go_upto_region 5 with (first | ((with_reducible refine gate_dst (N := 24) rfl ?_); refine load102 HAX.out rfl (.tmp 23) rfl rfl ?_) | (refine store102 (by rfl) #[.int .i64 x.f0, .int .i64 x.f1.f0, .int .i64 x.f1.f1, .int .u32 x.f1.f2, .int .u32 x.f2, .int .u32 x.f3, .int .u32 x.f4] (by rfl) (by simp [Value.oneCell']) (by rfl) (.tmp 10) (.tmp 24) (by rfl) (by rfl) (by rfl) (by rfl) ?_))
    have hP : wr.heap.size < (wr.alloc (.cells #[.int .i64 x.f0, .int .i64 x.f1.f0, .int .i64 x.f1.f1, .int .u32 x.f1.f2, .int .u32 x.f2, .int .u32 x.f3, .int .u32 x.f4] 102)).heap.size := by simp
    have HPL := Aside0.mk (show ∀ g, g < wr.heap.size → wr.heap.size ≠ g from fun g h => by omega)
    replace HB := Aside0.mk (HB.out.trans (B1.mono HB.out.size))
    replace HS := Aside0.mk (HS.out.below B1)
    have HOL := Aside0.mk HO.out
    replace HO := Aside0.mk (Kd.R_below HO.out B1)
    clear B1 HAX hP
    generalize wr.alloc (.cells #[.int .i64 x.f0, .int .i64 x.f1.f0, .int .i64 x.f1.f1, .int .u32 x.f1.f2, .int .u32 x.f2, .int .u32 x.f3, .int .u32 x.f4] 102) = w2 at *
    rw [HN2.out] at HV0 HKS HBS
    have x0 := HX.out.g0
    have p9 : 0 ≤ x.f0 := HV0.out.1
    have q9 : x.f0 < (cs.length : Int) := by rw [HCL.out]; exact HV0.out.2
    obtain ⟨go, co, eo, gb, gl, cl, HG⟩ := Kd.R_form HOL.out (by omega)
    have hne := HPL.out go gl
    subst eo
    have GB := Aside0.mk (show w.heap.size ≤ go from by have := HQ.out; omega)
    have GNE := Aside0.mk (show B ≠ go from by have := HQ.out; have := HW.out; omega)
    have GNP := Aside0.mk hne
    obtain ⟨hx9, hf9⟩ := Kd.R_celln 0 HO.out x.f0 p9 q9
    have HPG := Aside0.mk (Kd.R_putg HO.out x.f0 (rdOf 0 cs x.f0 + 1))
    have HQ9 := Aside0.mk q9
    have HP9 := Aside0.mk p9
    have hbd2 := cnt_bd t.f5.length (kA (t.f6.take k)) x.f0
    rw [← HCE.out] at hbd2
    have hbl := HKL.out
    have hwc : IntKind.i64.wrap (rdOf 0 cs x.f0 + 1) = rdOf 0 cs x.f0 + 1 := IntWalk.i64_in _ (by omega)
    replace p9 := eq_true p9
    replace q9 := eq_true q9
    clear hbd2 hbl HG gb gl hne HOL HPL HO
    generalize wr.heap.size = P at *
    go_upto_region 6 with fail
    have HB5 := Aside0.mk (show Below w.heap.size w (w2.setCell ⟨go, (x.f0 : Int).toNat, none⟩ (.int .i64 (rdOf 0 cs x.f0 + 1))) from below_set HB.out GB.out)
    have HK5 := Aside0.mk HPG.out.2
    have HO5 := Aside0.mk (show (Kd.int .i64).R 3 (w2.setCell ⟨go, (x.f0 : Int).toNat, none⟩ (.int .i64 (rdOf 0 cs x.f0 + 1))) Q (fun _ => True) (.slice (some ⟨go, 0, none⟩) cs.length co) (bump cs x.f0) from HPG.out.1)
    clear HPG
    generalize w2.setCell ⟨go, (x.f0 : Int).toNat, none⟩ (.int .i64 (rdOf 0 cs x.f0 + 1)) = w5 at *
    clear hx9 hf9 x0 hwc
    have x0' := HX.out
    replace HX := Aside0.mk (HX.out.grown HK5.out GNP.out)
    replace HS := Aside0.mk (show At w5 B V t from ⟨grown_box HS.out.box HK5.out GNE.out, HT0.out.below HB5.out⟩)
    obtain ⟨hy9, hf9⟩ := Kd.R_celln 0 HO5.out x.f0 HP9.out HQ9.out
    clear x0'
    have x0 := HX.out.g0
    have x1 := HX.out.g1
    have HTP := Aside0.mk (top_bump 2 cs x.f0 HP9.out HQ9.out)
    rw [← HM.out] at HTP
    have HRD := Aside0.mk (bump_rd HP9.out HQ9.out)
    rw [HRD.out] at hy9
    have HC2 := Aside0.mk (show bump cs x.f0 = cnt t.f5.length (kA (t.f6.take (k + 1))) from by rw [HKS.out, cnt_snoc, ← HCE.out])
    clear HRD hf9
    generalize rdOf 0 cs x.f0 + 1 = n1 at *
    by_cases h3 : x.f1.f0 = 3
    ·have b3 : (x.f1.f0 == 3) = true := by rw [beq_iff_eq]; exact h3
     have HBT := Aside0.mk (show b + 1 = bA (t.f6.take (k + 1)) from by rw [HBS.out, if_pos h3, ← HBK.out])
     clear h3
     go_wp2_with fail
     all_goals
      go_roundg (t.f6.length - (k + 1))
      case measure => have := HLT.out; omega
      case rel => exact ⟨k + 1, bump cs x.f0, _, _, HLT.out, rfl, by go_num, rfl, rfl, HC2, ⟨by rw [HTP.out]; first | rfl | (unfold mx; simp only [*]; done) | (unfold mx; split <;> omega)⟩, HBT, HS, HB5, HO5⟩
    ·have b3 : (x.f1.f0 == 3) = false := by rw [beq_eq_false_iff_ne]; exact h3
     have HBT := Aside0.mk (show b = bA (t.f6.take (k + 1)) from by rw [HBS.out, if_neg h3, ← HBK.out, Int.add_zero])
     clear h3
     go_wp2_with fail
     all_goals
      go_roundg (t.f6.length - (k + 1))
      case measure => have := HLT.out; omega
      case rel => exact ⟨k + 1, bump cs x.f0, _, _, HLT.out, rfl, by go_num, rfl, rfl, HC2, ⟨by rw [HTP.out]; first | rfl | (unfold mx; simp only [*]; done) | (unfold mx; split <;> omega)⟩, HBT, HS, HB5, HO5⟩
  ·have hd : decide ((k : Int) < (t.f6.length : Int)) = false := decide_eq_false (by omega)
   have HM1 := Aside0.mk (show m = top 2 (cnt t.f5.length (kA t.f6)) from by rw [HM.out, HCE.out, List.take_of_length_le (by omega)])
   have HB1 := Aside0.mk (show b = bA t.f6 from by rw [HBK.out, List.take_of_length_le (by omega)])
   clear HM HCE HBK HO
   have q8 := HS.out.q8
   go_upto_region 11 with (first | ((with_reducible refine gate_dst (N := 49) rfl ?_); refine Kd.R_make (Kd.int .i64) wr.heap.size 3 rfl (N := 49) rfl 48 _ _ rfl (t.f8.length : Int) rfl rfl Try.underlying48 (.int .i64 0) 8 info3 rfl (by decide) (by omega) 0 (ok := fun _ => True) (okp := fun _ => True) rfl (fun _ hk => hk) trivial (by omega) (by have := HNmg.out; simp only [Int.toNat_natCast]; omega) (Below.refl _ _) (Nat.le_refl _) ?_; intro v3 w3 HR3 HB3 HG3 HA3; clear HG3 HA3; rw [Int.toNat_natCast] at HR3; have HO := Aside0.mk HR3; have HB4 := Aside0.mk HB3; clear HR3 HB3))
   clear q8
   obtain ⟨Q2, hQ⟩ : ∃ Q2, wr.heap.size = Q2 := ⟨_, rfl⟩
   replace HQ := Aside0.mk (show w.heap.size < Q2 from by have := HQ.out; have := HB.out.size; have := HS.out.lt; have := HW.out; omega)
   rw [hQ] at HO
   replace HS := Aside0.mk (HS.out.below HB4.out)
   replace HB := Aside0.mk (HB.out.trans (HB4.out.mono HB.out.size))
   clear HB4 hQ
   have q8 := HS.out.q8
   go_wp2_with fail
   clear q8
   generalize hA : V.a8 = A8
   have HV8 := Aside0.mk hA
   clear hA
   go_loopg [7, 8, 53] t.f8.length (fun g s7 s8 i wr => ∃ (k : Nat) (cs : List Int) (m1 b1 : Int), k ≤ t.f8.length ∧ g = t.f8.length - k ∧ i = .int .i64 k ∧ s7 = .int .i64 m1 ∧ s8 = .int .i64 b1 ∧ Aside0 (cs = cnt t.f8.length (kM (t.f8.take k))) ∧ Aside0 (m1 = top m cs) ∧ Aside0 (b1 = b + bM (t.f8.take k)) ∧ Aside0 (At wr B V t) ∧ Aside0 (Below w.heap.size w wr) ∧ Aside0 ((Kd.int .i64).R 3 wr Q2 (fun _ => True) v3 cs))
   case atStart => exact ⟨0, _, _, _, by omega, rfl, rfl, rfl, rfl, ⟨rfl⟩, ⟨(top_zeros _ _ (by rw [HM1.out]; have := top_ge 2 (cnt t.f5.length (kA t.f6)); omega)).symm⟩, ⟨(Int.add_zero _).symm⟩, HS, HB, HO⟩
   case round =>
    clear HS HB HO
    obtain ⟨k, cs, m1, b1, hk, rfl, rfl, rfl, rfl, HCE, HM, HBK, HS, HB, HO⟩ := hrel
    have hbd := HS.out.tb.bd.mg
    by_cases hlt : k < t.f8.length
    ·have hd : decide ((k : Int) < (t.f8.length : Int)) = true := decide_eq_true (by omega)
     have HV0' := Aside0.mk (HMM.out _ (getD_mem (d := z113) hlt))
     have HKS := Aside0.mk (kM_step t.f8 k hlt)
     have HBS := Aside0.mk (bM_step t.f8 k hlt)
     have HCL := Aside0.mk (show cs.length = t.f8.length from by rw [HCE.out, cnt_len])
     have HKL := Aside0.mk (show (kM (t.f8.take k)).length ≤ 140737488355328 from by have := kM_len (t.f8.take k); simp at this; omega)
     have hbb := bM_bd (t.f8.take k)
     have hba := bA_bd t.f6
     have hb1 := HBK.out
     have hb2 := HB1.out
     have hbl : (t.f8.take k).length ≤ 140737488355328 := by simp; omega
     have hal := HS.out.tb.bd.al
     have hwb : IntKind.i64.wrap (b1 + 1) = b1 + 1 := IntWalk.i64_in _ (by omega)
     clear hbb hbl hba hb1 hb2 hal
     ·obtain ⟨x, ad, hx, e, HA⟩ := msg_at HS.out.tb.mg k hlt
      obtain rfl : A8 = some ad := by rw [← HV8.out]; exact e
      have HAX := Aside0.mk HA
      have HN2 := Aside0.mk hx
      have B1 := below_a wr (.cells #[.int .i64 x.f0, .int .i64 x.f1, .int .i64 x.f2, .int .u64 x.f3, .int .i64 x.f4, .int .i64 x.f5.f0, .int .i64 x.f5.f1, .int .u32 x.f5.f2] 113)
      have HX := Aside0.mk (At113.made wr x)
      have HLT := Aside0.mk hlt
      have HSZ := Aside0.mk (HB.out.size)
      clear hx e HA
      go_upto_region 14 with (first | ((with_reducible refine gate_dst (N := 56) rfl ?_); refine load113 HAX.out rfl (.tmp 55) rfl rfl ?_) | (refine store113 (by rfl) #[.int .i64 x.f0, .int .i64 x.f1, .int .i64 x.f2, .int .u64 x.f3, .int .i64 x.f4, .int .i64 x.f5.f0, .int .i64 x.f5.f1, .int .u32 x.f5.f2] (by rfl) (by simp [Value.oneCell']) (by rfl) (.tmp 13) (.tmp 56) (by rfl) (by rfl) (by rfl) (by rfl) ?_))
      have hP : wr.heap.size < (wr.alloc (.cells #[.int .i64 x.f0, .int .i64 x.f1, .int .i64 x.f2, .int .u64 x.f3, .int .i64 x.f4, .int .i64 x.f5.f0, .int .i64 x.f5.f1, .int .u32 x.f5.f2] 113)).heap.size := by simp
      have HPL := Aside0.mk (show ∀ g, g < wr.heap.size → wr.heap.size ≠ g from fun g h => by omega)
      replace HB := Aside0.mk (HB.out.trans (B1.mono HB.out.size))
      replace HS := Aside0.mk (HS.out.below B1)
      have HOL := Aside0.mk HO.out
      replace HO := Aside0.mk (Kd.R_below HO.out B1)
      clear B1 HAX hP
      generalize wr.alloc (.cells #[.int .i64 x.f0, .int .i64 x.f1, .int .i64 x.f2, .int .u64 x.f3, .int .i64 x.f4, .int .i64 x.f5.f0, .int .i64 x.f5.f1, .int .u32 x.f5.f2] 113) = w2 at *
      rw [HN2.out] at HV0' HKS HBS
      have x0 := HX.out.g0
      have x2 := HX.out.g2
      by_cases hk1 : x.f0 = 1
      ·have bk : (x.f0 != 1) = false := by rw [bne_eq_false_iff_eq]; exact hk1
       have HC2 := Aside0.mk (show cs = cnt t.f8.length (kM (t.f8.take (k + 1))) from by rw [HKS.out, if_pos hk1, List.append_nil, ← HCE.out])
       have x5 := HX.out.g5
       clear hk1 HOL HPL x2
       by_cases h3 : x.f5.f0 = 3
       ·have b3 : (x.f5.f0 == 3) = true := by rw [beq_iff_eq]; exact h3
        have HBT := Aside0.mk (show b1 + 1 = b + bM (t.f8.take (k + 1)) from by rw [HBS.out, if_pos h3, HBK.out]; omega)
        clear h3
        go_wp2_with fail
        go_roundg (t.f8.length - (k + 1))
        case measure => have := HLT.out; omega
        case rel => exact ⟨k + 1, cs, _, _, HLT.out, rfl, by go_num, rfl, rfl, HC2, HM, HBT, HS, HB, HO⟩
       ·have b3 : (x.f5.f0 == 3) = false := by rw [beq_eq_false_iff_ne]; exact h3
        have HBT := Aside0.mk (show b1 = b + bM (t.f8.take (k + 1)) from by rw [HBS.out, if_neg h3, HBK.out]; omega)
        clear h3
        go_wp2_with fail
        go_roundg (t.f8.length - (k + 1))
        case measure => have := HLT.out; omega
        case rel => exact ⟨k + 1, cs, _, _, HLT.out, rfl, by go_num, rfl, rfl, HC2, HM, HBT, HS, HB, HO⟩
      ·have bk : (x.f0 != 1) = true := by rw [bne_iff_ne]; exact hk1
       have HV0 := Aside0.mk (HV0'.out hk1)
       replace HKS := Aside0.mk (show kM (t.f8.take (k + 1)) = kM (t.f8.take k) ++ [x.f2] from by rw [HKS.out, if_neg hk1])
       clear hk1 HV0'
       have p9 : 0 ≤ x.f2 := HV0.out.1
       have q9 : x.f2 < (cs.length : Int) := by rw [HCL.out]; exact HV0.out.2
       obtain ⟨go, co, eo, gb, gl, cl, HG⟩ := Kd.R_form HOL.out (by omega)
       have hne := HPL.out go gl
       subst eo
       have GB := Aside0.mk (show w.heap.size ≤ go from by have := HQ.out; omega)
       have GNE := Aside0.mk (show B ≠ go from by have := HQ.out; have := HW.out; omega)
       have GNP := Aside0.mk hne
       obtain ⟨hx9, hf9⟩ := Kd.R_celln 0 HO.out x.f2 p9 q9
       have HPG := Aside0.mk (Kd.R_putg HO.out x.f2 (rdOf 0 cs x.f2 + 1))
       have HQ9 := Aside0.mk q9
       have HP9 := Aside0.mk p9
       have hbd2 := cnt_bd t.f8.length (kM (t.f8.take k)) x.f2
       rw [← HCE.out] at hbd2
       have hbl := HKL.out
       have hwc : IntKind.i64.wrap (rdOf 0 cs x.f2 + 1) = rdOf 0 cs x.f2 + 1 := IntWalk.i64_in _ (by omega)
       replace p9 := eq_true p9
       replace q9 := eq_true q9
       clear hbd2 hbl HG gb gl hne HOL HPL HO
       generalize wr.heap.size = P at *
       go_upto_region 16 with fail
       have HB5 := Aside0.mk (show Below w.heap.size w (w2.setCell ⟨go, (x.f2 : Int).toNat, none⟩ (.int .i64 (rdOf 0 cs x.f2 + 1))) from below_set HB.out GB.out)
       have HK5 := Aside0.mk HPG.out.2
       have HO5 := Aside0.mk (show (Kd.int .i64).R 3 (w2.setCell ⟨go, (x.f2 : Int).toNat, none⟩ (.int .i64 (rdOf 0 cs x.f2 + 1))) Q2 (fun _ => True) (.slice (some ⟨go, 0, none⟩) cs.length co) (bump cs x.f2) from HPG.out.1)
       clear HPG
       generalize w2.setCell ⟨go, (x.f2 : Int).toNat, none⟩ (.int .i64 (rdOf 0 cs x.f2 + 1)) = w5 at *
       clear hx9 hf9 x0 x2 hwc
       have x0' := HX.out
       replace HX := Aside0.mk (HX.out.grown HK5.out GNP.out)
       replace HS := Aside0.mk (show At w5 B V t from ⟨grown_box HS.out.box HK5.out GNE.out, HT0.out.below HB5.out⟩)
       obtain ⟨hy9, hf9⟩ := Kd.R_celln 0 HO5.out x.f2 HP9.out HQ9.out
       clear x0'
       have x2 := HX.out.g2
       have x5 := HX.out.g5
       have HTP := Aside0.mk (top_bump m cs x.f2 HP9.out HQ9.out)
       rw [← HM.out] at HTP
       have HRD := Aside0.mk (bump_rd HP9.out HQ9.out)
       rw [HRD.out] at hy9
       have HC2 := Aside0.mk (show bump cs x.f2 = cnt t.f8.length (kM (t.f8.take (k + 1))) from by rw [HKS.out, cnt_snoc, ← HCE.out])
       clear HRD hf9
       generalize rdOf 0 cs x.f2 + 1 = n1 at *
       by_cases h3 : x.f5.f0 = 3
       ·have b3 : (x.f5.f0 == 3) = true := by rw [beq_iff_eq]; exact h3
        have HBT := Aside0.mk (show b1 + 1 = b + bM (t.f8.take (k + 1)) from by rw [HBS.out, if_pos h3, HBK.out]; omega)
        clear h3
        go_wp2_with fail
        all_goals
         go_roundg (t.f8.length - (k + 1))
         case measure => have := HLT.out; omega
         case rel => exact ⟨k + 1, bump cs x.f2, _, _, HLT.out, rfl, by go_num, rfl, rfl, HC2, ⟨by rw [HTP.out]; first | rfl | (unfold mx; simp only [*]; done) | (unfold mx; split <;> omega)⟩, HBT, HS, HB5, HO5⟩
       ·have b3 : (x.f5.f0 == 3) = false := by rw [beq_eq_false_iff_ne]; exact h3
        have HBT := Aside0.mk (show b1 = b + bM (t.f8.take (k + 1)) from by rw [HBS.out, if_neg h3, HBK.out]; omega)
        clear h3
        go_wp2_with fail
        all_goals
         go_roundg (t.f8.length - (k + 1))
         case measure => have := HLT.out; omega
         case rel => exact ⟨k + 1, bump cs x.f2, _, _, HLT.out, rfl, by go_num, rfl, rfl, HC2, ⟨by rw [HTP.out]; first | rfl | (unfold mx; simp only [*]; done) | (unfold mx; split <;> omega)⟩, HBT, HS, HB5, HO5⟩
    ·have hd : decide ((k : Int) < (t.f8.length : Int)) = false := decide_eq_false (by omega)
     have HM2 := Aside0.mk (show mostOf t = m1 from by unfold mostOf; rw [HM.out, HM1.out, HCE.out, List.take_of_length_le (by omega)])
     have HB2 := Aside0.mk (show backOf t = b1 from by unfold backOf; rw [HBK.out, HB1.out, List.take_of_length_le (by omega)])
     have q3 := HS.out.q3
     have q7 := HS.out.q7
     have hir := HS.out.tb.bd.ir
     have hwi : IntKind.i64.wrap ((t.f7.length : Int) + 4) = (t.f7.length : Int) + 4 := IntWalk.i64_in _ (by omega)
     clear HM HCE HBK HO HM1 HB1
     go_wp2_with fail
     go_quiet (fail)
     go_wp2_with fail
     exact bodyPost_ret (v := .tuple #[.int .i64 t.f3.length, .int .i64 (t.f7.length + 4), .int .i64 m1, .int .i64 b1]) (by simp [results, Try.results28, go_sem]) rfl ⟨by rw [HM2.out, HB2.out], HB.out.trans ((drewN_below _ _).mono HB.out.size)⟩
end Go.Proofs.Ytbgcemijihpakaa.XA
end
section
-- WRITTEN BY wip/tools/xprint.py: a program of this session's over the kit's printer, with texts of this session's own among them
namespace Go.Proofs.Ytbgcemijihpakaa.XA
open Go.RowKit Go.Proofs.YtbgcemijihpakaaW.PrintWords Go.Proofs.YtbgcemijihpakaaW.PrintLast Go.Proofs.YtbgcemijihpakaaW.PrintMore
attribute [local go_sem] max2_int min2_int max_two min_two max_three min_three max_four min_four   -- for this text's walks alone
set_option linter.unusedVariables false
set_option linter.unusedSimpArgs false

theorem eqA66 (d : Nat) (w : World) (x0 y0 : Bool) (x1 y1 : Int) :
  (Op.equalIn (d + 2) 66 (.agg #[.bool x0, .int .i64 x1]) (.agg #[.bool y0, .int .i64 y1])).run Try.prog w = .ok (x0 == y0 && (x1 == y1)) w := by
 refine eqA_of Try.underlying66 (by kernel_rfl) ?_
 refine eqf_cons (by rfl) (by go_simp; rfl) (by go_simp; rfl) (by go_simp) ?_
 exact eqf_last (by rfl) (by go_simp; rfl) (by go_simp; rfl) (by go_simp)
end Go.Proofs.Ytbgcemijihpakaa.XA
end
