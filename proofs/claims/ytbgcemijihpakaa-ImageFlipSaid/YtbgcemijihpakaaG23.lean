/- image.Encode: the contract. -/
import Derived.Test.YtbgcemijihpakaaG22
namespace Go.Proofs.Ytbgcemijihpakaa.XA
set_option linter.unusedVariables false
set_option linter.unusedSimpArgs false
open Go.RowKit Go.WideMaps Go.Maps Go.Proofs.YtbgcemijihpakaaW.PrintWords Go.Proofs.YtbgcemijihpakaaW.PrintLast Go.Proofs.YtbgcemijihpakaaW.PrintMore
def crcL (l : List Int) : Int := ((crcB 65535#16 l).toNat : Int)
theorem crcL_bd (l : List Int) : 0 ≤ crcL l ∧ crcL l ≤ 65535 := by unfold crcL; have := (crcB 65535#16 l).isLt; omega
theorem slice_one {w : World} {g T : Nat} {A : Option Addr} {n c : Nat} {l : List Int} (hg : w.heap[g]? = some (.cells #[.slice A n c] T (0, 0))) (hn : n = l.length) (hC : (Kd.int .u8).C w A l.length l) (hc : l.length ≤ c) : (Kd.slice 5 (Kd.int .u8)).C w (some ⟨g, 0, none⟩) 1 [l] := by
 subst hn
 refine tab_of (d := Kd.slice 5 (Kd.int .u8)) (xs := [l]) (cs := [.slice A l.length c]) hg (by simp) fun j p hj => ?_
 cases j with
 | zero =>
  simp at hj
  subst hj
  exact ⟨[.slice A l.length c], rfl, ⟨A, c, rfl, hc, hC⟩, fun i u hu => by
   cases i with
   | zero => simpa using hu
   | succ i => simp at hu⟩
 | succ j => simp at hj
theorem crc_calls {w : World} {g : Nat} (l : List Int) (hC : (Kd.slice 5 (Kd.int .u8)).C w (some ⟨g, 0, none⟩) 1 [l]) (hb : ∀ x ∈ l, 0 ≤ x ∧ x ≤ 255) (hn : l.length ≤ 1099511627776) :
  Calls Try.prog 18 #[.slice (some ⟨g, 0, none⟩) 1 1] w fun e w' => e = .returned (.int .u16 (crcL l)) ∧ Below w.heap.size w w' := by
 have hf := crc_f [l] (by simp) (fun x hx => by simp at hx; subst hx; exact ⟨by omega, hb⟩) 0
 rw [show ([l] : List (List Int)).flatten = l from by simp] at hf
 exact (octet_Crc.calls _ (some ⟨g, 0, none⟩) 1 [l] (crcL l) w hC (by simp) hf).mono fun e w' h => ⟨h.1, h.2.below⟩
theorem row_wrote {kd : IntKind} {e b base B : Nat} {w w' : World} {u v : Value} {xs bs : List Int} (h : (Kd.int kd).R e w b (fun _ => True) u xs) (hW : WS w base B v bs) (hk : Kp base w w' B v) (h1 : e ≠ 59) (h2 : e ≠ 5) : (Kd.int kd).R e w' b (fun _ => True) u xs :=
 row_kept h (fun k hlt ho => hk.keep k hlt
  (fun e1 => by subst e1; obtain ⟨cs, hc⟩ := own_ty h ho; exact h1 (ty_ne hc hW.box))
  (fun e1 => by obtain ⟨cs, hc⟩ := own_ty h ho; obtain ⟨cs2, hc2⟩ := own_ty hW.row e1; exact h2 (ty_ne hc hc2)))
def cntsL (t : S33) : List Int := [(t.f2.length : Int), (t.f3.length : Int), (t.f4.length : Int), (t.f5.length : Int), (t.f6.length : Int), (t.f7.length : Int), (t.f8.length : Int)]
/-- an image, less its sum -/
def imgB (t : S33) : List Int := [84, 80, 84, 49] ++ leN 4 (28 + (encBody t).length + 2) ++ (cntsL t).flatMap (leN 2) ++ bytes1 [t.f0, t.f1, t.f9, t.f10, t.f11, t.f12] ++ encBody t
def imgL (t : S33) : List Int := imgB t ++ leN 2 (crcL (imgB t))
def encL (t : S33) : List Int := if tabOk t then imgL t else []
theorem encBody_len {t : S33} (h : OkTab t) : (encBody t).length ≤ 60000000 := by
 obtain ⟨n1, n2, n3, n4, n5, n6, n7⟩ := h.n
 have h1 := part_len encTask t.f2 (fun x hx => encTask_len (h.tk x hx)) n1
 have h2 := part_len encRing t.f3 (fun x hx => encRing_len (h.rg x hx)) n2
 have h3 := part_len encRes t.f4 (fun x hx => encRes_len (h.rs x hx)) n3
 have h4 := part_len encCtr t.f5 (fun x hx => encCtr_len (h.ct x hx)) n4
 have h5 := part_len encAlm t.f6 (fun x hx => encAlm_len (h.al x hx)) n5
 have h6 := part_len encIsr t.f7 (fun x hx => encIsr_len (h.ir x hx)) n6
 have h7 := part_len encMsg t.f8 (fun x hx => encMsg_len (h.mg x hx)) n7
 unfold encBody parts
 simp only [List.flatten_cons, List.flatten_nil, List.length_append, List.length_nil]
 omega
theorem flat_bytes (n : Nat) (l : List Int) : ∀ x ∈ l.flatMap (leN n), 0 ≤ x ∧ x ≤ 255 := by
 intro x hx
 obtain ⟨y, _, h⟩ := List.mem_flatMap.mp hx
 exact leN_bytes n y x h
theorem act_bytes (a : S100) : ∀ x ∈ actL a, 0 ≤ x ∧ x ≤ 255 := by
 intro x hx; unfold actL bytes1 at hx; rw [List.mem_append] at hx
 rcases hx with h | h
 ·exact flat_bytes _ _ x h
 ·exact leN_bytes _ _ x h
theorem list_bytes (l : List Int) : ∀ x ∈ listL l, 0 ≤ x ∧ x ≤ 255 := by
 intro x hx; unfold listL bytes1 at hx; rw [List.mem_append] at hx
 rcases hx with h | h <;> exact flat_bytes _ _ x h
theorem fm_bytes {α : Type} (f : α → List Int) (xs : List α) (h : ∀ y, ∀ x ∈ f y, 0 ≤ x ∧ x ≤ 255) : ∀ x ∈ xs.flatMap f, 0 ≤ x ∧ x ≤ 255 := by
 intro x hx
 obtain ⟨y, _, hy⟩ := List.mem_flatMap.mp hx
 exact h y x hy
theorem body_bytes (t : S33) : ∀ x ∈ encBody t, 0 ≤ x ∧ x ≤ 255 := by
 intro x hx
 unfold encBody parts at hx
 simp only [List.flatten_cons, List.flatten_nil, List.mem_append, List.not_mem_nil, or_false] at hx
 have fb : ∀ b : Bool, ∀ x ∈ flagL b, 0 ≤ x ∧ x ≤ 255 := fun b x hx => leN_bytes _ _ x hx
 rcases hx with h | h | h | h | h | h | h
 ·refine fm_bytes encTask _ (fun y x hx => ?_) x h
  unfold encTask bytes1 at hx; simp only [List.mem_append] at hx
  rcases hx with (((((hx | hx) | hx) | hx) | hx) | hx) | hx
  ·exact flat_bytes _ _ x hx
  ·exact fb _ x hx
  ·exact flat_bytes _ _ x hx
  ·exact leN_bytes _ _ x hx
  ·exact flat_bytes _ _ x hx
  ·exact list_bytes _ x hx
  ·exact leN_bytes _ _ x hx
 ·refine fm_bytes encRing _ (fun y x hx => ?_) x h
  unfold encRing bytes1 at hx; simp only [List.mem_append] at hx
  rcases hx with hx | hx
  ·exact flat_bytes _ _ x hx
  ·exact leN_bytes _ _ x hx
 ·refine fm_bytes encRes _ (fun y x hx => ?_) x h
  unfold encRes bytes1 at hx; simp only [List.mem_append] at hx
  rcases hx with hx | hx
  ·exact fb _ x hx
  ·exact flat_bytes _ _ x hx
 ·exact fm_bytes encCtr _ (fun y x hx => flat_bytes _ _ x hx) x h
 ·refine fm_bytes encAlm _ (fun y x hx => ?_) x h
  unfold encAlm bytes1 at hx; simp only [List.mem_append] at hx
  rcases hx with ((hx | hx) | hx) | hx
  ·exact flat_bytes _ _ x hx
  ·exact act_bytes _ x hx
  ·exact leN_bytes _ _ x hx
  ·exact flat_bytes _ _ x hx
 ·refine fm_bytes encIsr _ (fun y x hx => ?_) x h
  unfold encIsr bytes1 at hx; simp only [List.mem_append] at hx
  rcases hx with hx | hx
  ·exact flat_bytes _ _ x hx
  ·exact list_bytes _ x hx
 ·refine fm_bytes encMsg _ (fun y x hx => ?_) x h
  unfold encMsg bytes1 at hx; simp only [List.mem_append] at hx
  rcases hx with ((hx | hx) | hx) | hx
  ·exact flat_bytes _ _ x hx
  ·exact leN_bytes _ _ x hx
  ·exact flat_bytes _ _ x hx
  ·exact act_bytes _ x hx
theorem imgB_bytes (t : S33) : ∀ x ∈ imgB t, 0 ≤ x ∧ x ≤ 255 := by
 intro x hx
 unfold imgB bytes1 at hx
 simp only [List.mem_append] at hx
 rcases hx with (((hx | hx) | hx) | hx) | hx
 ·simp at hx; omega
 ·exact leN_bytes _ _ x hx
 ·exact flat_bytes _ _ x hx
 ·exact flat_bytes _ _ x hx
 ·exact body_bytes t x hx
theorem imgL_bytes (t : S33) : ∀ x ∈ imgL t, 0 ≤ x ∧ x ≤ 255 := by
 intro x hx
 unfold imgL at hx
 rw [List.mem_append] at hx
 rcases hx with hx | hx
 ·exact imgB_bytes t x hx
 ·exact leN_bytes _ _ x hx
theorem ret2_e {v : Value} {a b : Int} (h : b = a) : Ending.returned (.tuple #[v, .int .i64 a]) = .returned (.tuple #[v, .int .i64 b]) := by rw [h]
set_option maxRecDepth 1000000 in
set_option maxHeartbeats 4000000 in
theorem enc_calls (V : TV) (t : S33) (w : World) (ht : Tb w V t) (hok : tabOk t = true → OkTab t) :
  Calls Try.prog 9 #[.agg (arr V t)] w fun e w' => ∃ v, e = .returned (.tuple #[v, .int .i64 (tabE t)]) ∧ (Kd.int .u8).R 5 w' w.heap.size (fun _ => True) v (encL t) ∧ Below w.heap.size w w' := by
 have HS := Aside0.mk (At.made ht)
 have HB := Aside0.mk (below_a w (.cells (arr V t) 33))
 have HT := Aside0.mk ht
 clear ht
 unfold arr at *
 have kc := fun (w : World) (C : Array Value) (n c : Nat) => Lib.run_convert_bytes_const (P := Try.prog) w 34 5 C n c Try.underlying34 Try.underlying5
 go_enter Try.func9, Try.ntmps9
 go_upto_region 1 with fail
 generalize w.alloc (.cells #[.int .i64 t.f0, .int .i64 t.f1, .slice V.a2 t.f2.length V.k2, .slice V.a3 t.f3.length V.k3, .slice V.a4 t.f4.length V.k4, .slice V.a5 t.f5.length V.k5, .slice V.a6 t.f6.length V.k6, .slice V.a7 t.f7.length V.k7, .slice V.a8 t.f8.length V.k8, .int .i64 t.f9, .int .i64 t.f10, .int .i64 t.f11, .int .i64 t.f12] 33) = w1 at *
 obtain ⟨B0, hB0⟩ : ∃ Q, w.heap.size = Q := ⟨_, rfl⟩
 have HQ := Aside0.mk hB0
 rw [hB0] at HS ⊢
 clear hB0
 go_wp2_with ((with_reducible refine gate_dst (N := 8) rfl ?_); refine load33 HS.out rfl (.tmp 1) rfl rfl ?_)
 have hx := check_calls V t w1 HS.out.tb
 unfold arr at hx
 refine hx.mono ?_
 clear hx
 rintro e w2 ⟨rfl, B3⟩
 replace HB := Aside0.mk (HB.out.trans (B3.mono HB.out.size))
 replace HS := Aside0.mk (HS.out.below B3)
 clear B3
 rcases hk : tabOk t with _ | _
 ·have hE : tabE t = 90 := by unfold tabE; rw [hk]; rfl
  have HL := Aside0.mk (show encL t = [] from by unfold encL; rw [hk]; rfl)
  rw [hE]
  have HEE := Aside0.mk hE
  clear hE hk
  go_wp2_with fail
  go_ret2
  exact ⟨.slice none 0 0, ret2_e HEE.out, by rw [HL.out]; exact Kd.R_nil _ _ _ _ _, HB.out⟩
 have hE : tabE t = 0 := by unfold tabE; rw [hk]; rfl
 have HL := Aside0.mk (show encL t = imgL t from by unfold encL; rw [hk]; rfl)
 have HOK := Aside0.mk (hok hk)
 rw [hE]
 have HEE := Aside0.mk hE
 clear hE hk hok
 have HW1 := Aside0.mk (show WS (w2.alloc (.cells #[.slice none 0 0] 59)) w.heap.size w2.heap.size (.slice none 0 0) [] from ⟨heap_alloc_new _ _, HB.out.size, Kd.R_nil _ _ _ _ _⟩)
 have B4 := below_a w2 (.cells #[.slice none 0 0] 59)
 replace HB := Aside0.mk (HB.out.trans (B4.mono HB.out.size))
 replace HS := Aside0.mk (HS.out.below B4)
 clear B4
 go_upto_region 4 with fail
 generalize w2.alloc (.cells #[.slice none 0 0] 59) = w3 at *
 obtain ⟨B1, hB1⟩ : ∃ Q, w2.heap.size = Q := ⟨_, rfl⟩
 rw [hB1] at HW1 ⊢
 clear hB1
 go_wp2_with ((with_reducible refine gate_dst (N := 14) rfl ?_); refine load33 HS.out rfl (.tmp 1) rfl rfl ?_)
 have hx := body_calls V t B1 w.heap.size (.slice none 0 0) [] w3 HW1.out w HT.out HB.out (Nat.le_refl _) HOK.out (by simp)
 unfold arr at hx
 refine hx.mono ?_
 clear hx
 rintro e w4 ⟨ua, v1, rfl, _, W1, R1⟩
 rw [List.nil_append] at W1
 replace HB := Aside0.mk (HB.out.trans R1.kp.low)
 replace HS := Aside0.mk (show At w4 B0 V t from ⟨box_kept HW1.out R1.kp HS.out.box (by decide) (by decide), HT.out.below HB.out⟩)
 replace HW1 := Aside0.mk W1
 clear W1 R1
 obtain ⟨A1, c1, hv1, hc1, hC1⟩ := Kd.R_reads HW1.out.row
 have HC1 := Aside0.mk hC1
 have HCL1 := Aside0.mk hc1
 subst hv1
 have HN := Aside0.mk (encBody_len HOK.out)
 clear hC1 hc1
 obtain ⟨n, hn⟩ : ∃ n, (encBody t).length = n := ⟨_, rfl⟩
 have HNN := Aside0.mk hn
 rw [hn] at HN HW1
 clear hn
 -- the second writer
 have hz : (w4.alloc (.cells magicV 5 (4, 5))).heap.size = w4.heap.size + 1 := by simp
 have HB2 := Aside0.mk (show ((w4.alloc (.cells magicV 5 (4, 5))).alloc (.cells #[.slice (some ⟨w4.heap.size, 0, none⟩) 4 4] 59)).heap[w4.heap.size + 1]? = some (.cells #[.slice (some ⟨w4.heap.size, 0, none⟩) 4 4] 59 (0, 0)) from by rw [← hz]; exact heap_alloc_new _ _)
 have HM2 := Aside0.mk (((below_a (w4.alloc (.cells magicV 5 (4, 5))) (.cells #[.slice (some ⟨w4.heap.size, 0, none⟩) 4 4] 59)).block w4.heap.size (by simp)).trans (heap_alloc_new w4 (.cells magicV 5 (4, 5))))
 have HK := Aside0.mk ((below_a w4 (.cells magicV 5 (4, 5))).trans ((below_a (w4.alloc (.cells magicV 5 (4, 5))) (.cells #[.slice (some ⟨w4.heap.size, 0, none⟩) 4 4] 59)).mono (by simp)))
 have HS0 := HS
 clear hz
 unfold magicV at HB2 HM2 HK
 go_upto_region 6 with fail
 generalize (w4.alloc (.cells #[.int .u8 84, .int .u8 80, .int .u8 84, .int .u8 49] 5 (4, 5))).alloc (.cells #[.slice (some ⟨w4.heap.size, 0, none⟩) 4 4] 59) = w5 at *
 obtain ⟨K0, hK0⟩ : ∃ Q, w4.heap.size = Q := ⟨_, rfl⟩
 have HK0 := Aside0.mk hK0
 rw [hK0] at HB2 HM2 HK ⊢
 clear hK0 kc
 have b1 := (cells_box (cs := [.slice A1 n c1]) ((HK.out.block B1 (by have := HW1.out.lt; have := HK0.out; omega)).trans HW1.out.box)) 0 _ rfl
 rw [add_z] at b1
 have hw1 : IntKind.i64.wrap (28 + (n : Int)) = 28 + (n : Int) := IntWalk.i64_in _ (by have := HN.out; omega)
 have hw2 : IntKind.i64.wrap (28 + (n : Int) + 2) = 28 + (n : Int) + 2 := IntWalk.i64_in _ (by have := HN.out; omega)
 have hp2 : (0 : Int) ≤ 28 + (n : Int) + 2 := by omega
 have hp3 : 28 + (n : Int) + 2 ≤ 4294967295 := by have := HN.out; omega
 go_wp2_with fail
 have hb5 := HB2.out
 have hbx : (w5.alloc (.cells #[.int .u64 (28 + (n : Int) + 2)] 62)).heap[K0 + 1]? = some (.cells #[.slice (some ⟨K0, 0, none⟩) 4 4] 59 (0, 0)) := ((below_a w5 (.cells #[.int .u64 (28 + (n : Int) + 2)] 62)).block (K0 + 1) (blk_lt hb5)).trans hb5
 have hmx : (w5.alloc (.cells #[.int .u64 (28 + (n : Int) + 2)] 62)).heap[K0]? = some (.cells magicV 5 (4, 5)) := ((below_a w5 (.cells #[.int .u64 (28 + (n : Int) + 2)] 62)).block K0 (blk_lt HM2.out)).trans HM2.out
 have hvx : (w5.alloc (.cells #[.int .u64 (28 + (n : Int) + 2)] 62)).heap[w5.heap.size]? = some (.cells #[.int .u64 (28 + (n : Int) + 2)] 62 (0, 0)) := heap_alloc_new w5 _
 have HPF := Aside0.mk (put_first (K0 + 1) K0 K0 w5.heap.size (28 + (n : Int) + 2) (w5.alloc (.cells #[.int .u64 (28 + (n : Int) + 2)] 62)) (Nat.le_succ K0) hbx hmx hvx hp2 hp3)
 clear hbx hmx hvx
 refine HPF.out.mono ?_
 clear HPF
 rintro e w6 ⟨v2, rfl, W2, K2⟩
 have hsz : K0 ≤ w5.heap.size := by have := blk_lt hb5; omega
 replace HK := Aside0.mk (HK.out.trans (((below_a w5 (.cells #[.int .u64 (28 + (n : Int) + 2)] 62)).mono hsz).trans K2.low))
 obtain ⟨bsA, hbA⟩ : ∃ z, [84, 80, 84, 49] ++ leN 4 (28 + (n : Int) + 2) = z := ⟨_, rfl⟩
 rw [hbA] at W2
 have HBA := Aside0.mk hbA
 have HLA := Aside0.mk (show bsA.length ≤ 8 from by rw [← hbA, List.length_append]; have := leN_len 4 (28 + (n : Int) + 2); simp; omega)
 have HW2 := Aside0.mk W2
 clear W2 K2 hb5 hsz hbA hw1 hw2 hp2 hp3 b1 HB2 HM2
 have HSW := Aside0.mk (HS0.out.below (show Below w4.heap.size w4 w6 from by rw [HK0.out]; exact HK.out))
 go_wp2_with ((with_reducible refine gate_dst (N := 31) rfl ?_); refine load33 HSW.out rfl (.tmp 1) rfl rfl ?_)
 have hx := image_counts.calls t.f0 t.f1 V.a2 V.k2 t.f2 V.a3 V.k3 t.f3 V.a4 V.k4 t.f4 V.a5 V.k5 t.f5 V.a6 V.k6 t.f6 V.a7 V.k7 t.f7 V.a8 V.k8 t.f8 t.f9 t.f10 t.f11 t.f12 (cntsL t) w6 HSW.out.tb.tk HSW.out.tb.tkl HSW.out.tb.rg HSW.out.tb.rgl HSW.out.tb.rs HSW.out.tb.rsl HSW.out.tb.ct HSW.out.tb.ctl HSW.out.tb.al HSW.out.tb.all HSW.out.tb.ir HSW.out.tb.irl HSW.out.tb.mg HSW.out.tb.mgl rfl
 refine hx.mono ?_
 clear hx
 rintro e w7 ⟨uc, rfl, RC, BC⟩
 replace HW2 := Aside0.mk (HW2.out.below BC)
 replace HK := Aside0.mk (HK.out.trans (BC.mono (by have := HW2.out.hB; have := HW2.out.lt; have := BC.size; have := HK.out.size; have := HK0.out; omega)))
 obtain ⟨Ac, cc, hc, hcc, _⟩ := Kd.R_reads RC
 subst hc
 have HRC := Aside0.mk RC
 have HCC := Aside0.mk hcc
 obtain ⟨cl, hcl⟩ : ∃ z, cntsL t = z := ⟨_, rfl⟩
 have h7 : cl.length = 7 := by rw [← hcl]; rfl
 have HCN := Aside0.mk (show ∀ x ∈ cl, Sm x from by
  have hn := HOK.out.n
  rw [← hcl]
  intro x hx
  simp only [cntsL, List.mem_cons, List.not_mem_nil, or_false] at hx
  unfold Sm
  rcases hx with rfl | rfl | rfl | rfl | rfl | rfl | rfl <;> omega)
 have HCL := Aside0.mk hcl
 rw [hcl, h7] at HRC ⊢
 have H7 := Aside0.mk h7
 clear RC BC hcc hcl h7
 obtain ⟨bc, hbc⟩ : ∃ z, w6.heap.size = z := ⟨_, rfl⟩
 rw [hbc] at HRC
 clear hbc
 go_wp2_with fail
 go_loopg [7, 34] 7 (fun g s7 i wr => ∃ (k : Nat) (vk : Value), k ≤ 7 ∧ g = 7 - k ∧ i = .int .i64 k ∧ Aside0 (WS wr K0 (K0 + 1) vk (bsA ++ (cl.take k).flatMap (leN 2))) ∧ Aside0 (Below K0 w4 wr) ∧ Aside0 ((Kd.int .i64).R 3 wr bc (fun _ => True) (.slice Ac 7 cc) cl))
 case atStart => exact ⟨0, v2, by omega, rfl, rfl, ⟨by simpa using HW2.out⟩, HK, HRC⟩
 case round =>
 clear HW2 HK HRC HSW
 obtain ⟨k, vk, hk, rfl, rfl, HW2, HK, HRC⟩ := hrel
 by_cases hlt : k < 7
 ·have hd : decide ((k : Int) < 7) = true := decide_eq_true (by omega)
  have HLT := Aside0.mk hlt
  obtain ⟨ad, hA, hc0⟩ : ∃ ad, Ac = some ad ∧ ∀ j, j < cl.length → wr.cell? (ad.add j) = some (.int .i64 (cl.getD j 0)) := by
   obtain ⟨A, c, hs, _, hC⟩ := Kd.R_reads HRC.out
   injection hs with hs _ _
   subst hs
   obtain ⟨ad, rfl, h⟩ := (Kd.reads_of_C (d := (0 : Int)) hC).2.2 (by rw [H7.out]; omega)
   exact ⟨ad, rfl, h⟩
  subst hA
  have hx := hc0 k (by rw [H7.out]; omega)
  have HXB := Aside0.mk (HCN.out _ (getD_mem (d := (0 : Int)) (show k < cl.length from by rw [H7.out]; omega)))
  have HFS := Aside0.mk (show (cl.take (k + 1)).flatMap (leN 2) = (cl.take k).flatMap (leN 2) ++ leN 2 (cl.getD k 0) from by
   rw [take_snoc cl k 0 (by rw [H7.out]; omega), List.flatMap_append]; simp)
  have HFL := Aside0.mk (show ((cl.take k).flatMap (leN 2)).length ≤ 56 from by
   have h1 := flat_len8 2 (cl.take k) (by omega)
   have h2 : (cl.take k).length ≤ cl.length := List.length_take_le' _ _
   have := H7.out
   omega)
  clear hc0
  generalize cl.getD k 0 = x at *
  have hx0 : 0 ≤ x := HXB.out.1
  have hx1 : x ≤ 4294967295 := HXB.out.2
  go_wp2_with fail
  refine (put_calls (K0 + 1) K0 vk (bsA ++ (cl.take k).flatMap (leN 2)) 2 (some ⟨wr.heap.size, 0, none⟩) 1 [x] (wr.alloc (.cells #[.int .u64 x] 62)) (HW2.out.new _) (by omega) (by omega) (kept_new (k := .u64) (cs := [x]) HW2.out rfl (by simp)) (by simp) (by simp; have := HXB.out; unfold Sm at this; omega) (by simp only [List.length_append, List.length_cons, List.length_nil]; have := HLA.out; have := HFL.out; omega)).mono ?_
  rintro e wb ⟨vb, rfl, W1, R1⟩
  rw [flat_one, List.append_assoc, ← HFS.out] at W1
  have HRN := (Wr.new HW2.out (.cells #[.int .u64 x] 62)).trans R1 HW2.out.base
  replace HK := Aside0.mk (HK.out.trans HRN.kp.low)
  replace HRC := Aside0.mk (row_wrote HRC.out HW2.out HRN.kp (by decide) (by decide))
  replace HW2 := Aside0.mk W1
  clear W1 R1 HRN hx
  go_wp2_with fail
  go_roundg (7 - (k + 1))
  case measure => have := HLT.out; omega
  case rel => exact ⟨k + 1, _, HLT.out, rfl, by go_num, HW2, HK, HRC⟩
 have hd : decide ((k : Int) < 7) = false := decide_eq_false (by omega)
 obtain rfl : k = 7 := by omega
 rw [show cl.take 7 = cl from List.take_of_length_le (by rw [H7.out]; exact Nat.le_refl _)] at HW2
 obtain ⟨bsB, hbB⟩ : ∃ z, bsA ++ cl.flatMap (leN 2) = z := ⟨_, rfl⟩
 rw [hbB] at HW2
 have HBB := Aside0.mk hbB
 have HLB := Aside0.mk (show bsB.length ≤ 64 from by rw [← hbB, List.length_append]; have := flat_len8 2 cl (by omega); have := H7.out; have := HLA.out; omega)
 have HSW := Aside0.mk (HS0.out.below (show Below w4.heap.size w4 wr from by rw [HK0.out]; exact HK.out))
 clear hbB HRC
 have q0 := HSW.out.q0
 have q1 := HSW.out.q1
 have q9 := HSW.out.q9
 have q10 := HSW.out.q10
 have q11 := HSW.out.q11
 have q12 := HSW.out.q12
 go_wp2_with fail
 clear q0 q1 q9 q10 q11 q12
 refine (bytes_calls (K0 + 1) K0 vk bsB (some ⟨wr.heap.size, 0, none⟩) 6 [t.f0, t.f1, t.f9, t.f10, t.f11, t.f12] (wr.alloc (.cells #[.int .i64 t.f0, .int .i64 t.f1, .int .i64 t.f9, .int .i64 t.f10, .int .i64 t.f11, .int .i64 t.f12] 3)) (HW2.out.new _) (kept_new (k := .i64) (cs := [t.f0, t.f1, t.f9, t.f10, t.f11, t.f12]) HW2.out rfl (by simp)) (by simp) (by simp; have := HOK.out.h; unfold Sm at this; omega) (by simp only [List.length_cons, List.length_nil]; have := HLB.out; omega)).mono ?_
 rintro e w8 ⟨v8, rfl, W1, R1⟩
 replace HK := Aside0.mk (HK.out.trans ((Wr.new HW2.out (.cells #[.int .i64 t.f0, .int .i64 t.f1, .int .i64 t.f9, .int .i64 t.f10, .int .i64 t.f11, .int .i64 t.f12] 3)).trans R1 HW2.out.base).kp.low)
 obtain ⟨bsC, hbC⟩ : ∃ z, bsB ++ bytes1 [t.f0, t.f1, t.f9, t.f10, t.f11, t.f12] = z := ⟨_, rfl⟩
 rw [hbC] at W1
 have HBC := Aside0.mk hbC
 have HLC := Aside0.mk (show bsC.length ≤ 200 from by rw [← hbC, List.length_append]; have := bytes1_len [t.f0, t.f1, t.f9, t.f10, t.f11, t.f12]; simp only [List.length_cons, List.length_nil] at this; have := HLB.out; omega)
 replace HW2 := Aside0.mk W1
 clear W1 R1 hbC HSW
 obtain ⟨A8, n8, c8, hv8⟩ : ∃ A n c, v8 = .slice A n c := (by obtain ⟨A, c, h⟩ := Kd.R_slice HW2.out.row; exact ⟨A, _, c, h⟩)
 subst hv8
 have HKW := Aside0.mk (show Below w4.heap.size w4 w8 from by rw [HK0.out]; exact HK.out)
 have b1 := (cells_box (cs := [.slice A1 n c1]) ((HKW.out.block B1 HW1.out.lt).trans HW1.out.box)) 0 _ rfl
 have b2 := (cells_box (cs := [.slice A8 n8 c8]) HW2.out.box) 0 _ rfl
 rw [add_z] at b1 b2
 go_upto_region 13 with fail
 refine start_ (n := 13) (S := fun w_ => Below w8.heap.size w8 w_) (ds := [9, 12]) #[false, false, false, false, false, false, false, false, false, false, false, false, false] (by kernel_rfl) rfl rfl (drew_below w8) (fun hHeld => ?_)
 have HH := Aside0.mk hHeld
 clear hHeld
 generalize w8.drew = wv at HH ⊢
 refine pure_ (i := 0) (N := some 59) (v := ?_) (a' := ?_) #[true, false, false, false, false, false, false, false, false, false, false, false, false] rfl rfl (by kernel_rfl) (fun _ _ _ h => h) (Or.inl ⟨by rfl, ?_⟩) ?_ ?_
 rotate_left
 ·intro w_
  go_simp
  with_reducible rfl
 rotate_left
 ·simp only [Act.put, List.setIfInBounds_toArray, List.set_cons_zero, List.set_cons_succ, i64_w, i32_w]
  rfl
 refine pure_ (i := 1) (N := some 60) (v := ?_) (a' := ?_) #[true, true, false, false, false, false, false, false, false, false, false, false, false] rfl rfl (by kernel_rfl) (fun _ _ _ h => h) (Or.inl ⟨by rfl, ?_⟩) ?_ ?_
 rotate_left
 ·intro w_
  go_simp
  with_reducible rfl
 rotate_left
 ·simp only [Act.put, List.setIfInBounds_toArray, List.set_cons_zero, List.set_cons_succ, i64_w, i32_w]
  rfl
 refine pure_ (i := 2) (N := some 61) (v := ?_) (a' := ?_) #[true, true, true, false, false, false, false, false, false, false, false, false, false] rfl rfl (by kernel_rfl) (fun _ _ _ h => h) (Or.inl ⟨by rfl, ?_⟩) ?_ ?_
 rotate_left
 ·intro w_
  go_simp
  with_reducible rfl
 rotate_left
 ·simp only [Act.put, List.setIfInBounds_toArray, List.set_cons_zero, List.set_cons_succ, i64_w, i32_w]
  rfl
 refine pure_ (i := 3) (N := some 62) (v := ?_) (a' := ?_) #[true, true, true, true, false, false, false, false, false, false, false, false, false] rfl rfl (by kernel_rfl) (fun _ _ _ h => h) (Or.inl ⟨by rfl, ?_⟩) ?_ ?_
 rotate_left
 ·intro w_
  go_simp
  with_reducible rfl
 rotate_left
 ·simp only [Act.put, List.setIfInBounds_toArray, List.set_cons_zero, List.set_cons_succ, i64_w, i32_w]
  rfl
 refine take_ (i := 4) (N := some 63) (v := ?_) (a' := ?_) #[true, true, true, true, true, false, false, false, false, false, false, false, false] rfl rfl (by kernel_rfl) (fun _ _ _ h => h) (Or.inl ⟨by rfl, ?_⟩) HH.out ?_ ?_
 rotate_left
 ·rintro w_ s
  have b1 := (s.cell (World.block_lt_of_cell? w8 _ b1)).trans b1; have b2 := (s.cell (World.block_lt_of_cell? w8 _ b2)).trans b2
  go_simp
  with_reducible rfl
 rotate_left
 ·simp only [Act.put, List.setIfInBounds_toArray, List.set_cons_zero, List.set_cons_succ, i64_w, i32_w]
  rfl
 refine pure_ (i := 5) (N := some 64) (v := ?_) (a' := ?_) #[true, true, true, true, true, true, false, false, false, false, false, false, false] rfl rfl (by kernel_rfl) (fun _ _ _ h => h) (Or.inl ⟨by rfl, ?_⟩) ?_ ?_
 rotate_left
 ·intro w_
  go_simp
  with_reducible rfl
 rotate_left
 ·simp only [Act.put, List.setIfInBounds_toArray, List.set_cons_zero, List.set_cons_succ, i64_w, i32_w]
  rfl
 refine pure_ (i := 6) (N := some 65) (v := ?_) (a' := ?_) #[true, true, true, true, true, true, true, false, false, false, false, false, false] rfl rfl (by kernel_rfl) (fun _ _ _ h => h) (Or.inl ⟨by rfl, ?_⟩) ?_ ?_
 rotate_left
 ·intro w_
  go_simp
  with_reducible rfl
 rotate_left
 ·simp only [Act.put, List.setIfInBounds_toArray, List.set_cons_zero, List.set_cons_succ, i64_w, i32_w]
  rfl
 refine pure_ (i := 7) (N := some 66) (v := ?_) (a' := ?_) #[true, true, true, true, true, true, true, true, false, false, false, false, false] rfl rfl (by kernel_rfl) (fun _ _ _ h => h) (Or.inl ⟨by rfl, ?_⟩) ?_ ?_
 rotate_left
 ·intro w_
  go_simp
  with_reducible rfl
 rotate_left
 ·simp only [Act.put, List.setIfInBounds_toArray, List.set_cons_zero, List.set_cons_succ, i64_w, i32_w]
  rfl
 refine take_ (i := 8) (N := some 67) (v := ?_) (a' := ?_) #[true, true, true, true, true, true, true, true, true, false, false, false, false] rfl rfl (by kernel_rfl) (fun _ _ _ h => h) (Or.inl ⟨by rfl, ?_⟩) HH.out ?_ ?_
 rotate_left
 ·rintro w_ s
  have b1 := (s.cell (World.block_lt_of_cell? w8 _ b1)).trans b1; have b2 := (s.cell (World.block_lt_of_cell? w8 _ b2)).trans b2
  go_simp
  with_reducible rfl
 rotate_left
 ·simp only [Act.put, List.setIfInBounds_toArray, List.set_cons_zero, List.set_cons_succ, i64_w, i32_w]
  rfl
 refine last_ (i := 9) (N := some 68) #[true, true, true, true, true, true, true, true, true, true, false, false, false] rfl rfl (by kernel_rfl) (by decide) (fun K hK => ?_)
 have HWV := Aside0.mk (HW2.out.below HH.out)
 have HCV := Aside0.mk (Kd.C_below HC1.out (HKW.out.trans (HH.out.mono HKW.out.size)))
 rw [HNN.out] at HCV
 refine Kd.R_append_rows_step (Kd.int .u8) (Rr := (Kd.int .u8).K wv) (w0 := wv) K0 (by rfl) (.tmp 63) (.tmp 67) 34 5 (.int .u8 0) 1 rfl Try.underlying34 info5 rfl (by decide) (by omega) (.slice A8 n8 c8) bsC (encBody t) A1 n c1 (fun _ => True) (fun _ => False) rfl rfl HWV.out.row HCV.out (fun _ _ h => h) (fun _ h => h.elim) (fun _ _ => trivial) (Below.refl _ _) HWV.out.base ?hl ?_
 (case hl => have := HN.out; have := HLC.out; omega)
 intro v3 w3 HR3 HB3 HG3 HA3
 obtain ⟨A3, n3, c3, hv3⟩ : ∃ A n c, v3 = .slice A n c := (by obtain ⟨A, c, h⟩ := Kd.R_slice HR3; exact ⟨A, _, c, h⟩)
 subst hv3
 have HP3 := Aside0.mk (put_step HWV.out HR3 HB3 HG3 HA3)
 have hbox3 := (HG3.block (K0 + 1) HWV.out.lt HWV.out.ne).trans HWV.out.box
 have hcell3 : w3.cell? ⟨K0 + 1, 0, none⟩ = some (.slice A8 n8 c8) := by simp [World.cell?, hbox3]
 have hfr3 : w3.frozen? ⟨K0 + 1, 0, none⟩ = false := by simp [World.frozen?, hbox3]
 clear HR3 HB3 HG3 HA3 hbox3
 refine hK.out _ _ ?_
 clear hK K
 refine norm_ (a' := ?_) ?_ ?_
 rotate_left
 ·show Act.put _ (some 68) _ = _
  simp only [Act.put, List.setIfInBounds_toArray, List.set_cons_zero, List.set_cons_succ, i64_w, i32_w]
  rfl
 refine pure_ (i := 10) (N := some 69) (v := ?_) (a' := ?_) #[true, true, true, true, true, true, true, true, true, true, true, false, false] rfl rfl (by kernel_rfl) (fun _ _ _ h => h) (Or.inl ⟨by rfl, ?_⟩) ?_ ?_
 rotate_left
 ·intro w_
  go_simp
  with_reducible rfl
 rotate_left
 ·simp only [Act.put, List.setIfInBounds_toArray, List.set_cons_zero, List.set_cons_succ, i64_w, i32_w]
  rfl
 refine pure_ (i := 11) (N := some 70) (v := ?_) (a' := ?_) #[true, true, true, true, true, true, true, true, true, true, true, true, false] rfl rfl (by kernel_rfl) (fun _ _ _ h => h) (Or.inl ⟨by rfl, ?_⟩) ?_ ?_
 rotate_left
 ·intro w_
  go_simp
  with_reducible rfl
 rotate_left
 ·simp only [Act.put, List.setIfInBounds_toArray, List.set_cons_zero, List.set_cons_succ, i64_w, i32_w]
  rfl
 refine last_ (i := 12) (N := none) #[true, true, true, true, true, true, true, true, true, true, true, true, true] rfl rfl (by kernel_rfl) (by decide) (fun K hK => ?_)
 go_simp
 refine hK.out _ _ ?_
 clear hK K
 refine done_ (by kernel_rfl) ?_
 have HWN := Aside0.mk HP3.out.1
 replace HK := Aside0.mk (HK.out.trans ((HH.out.mono HW2.out.base).trans HP3.out.2.kp.low))
 obtain ⟨bsD, hbD⟩ : ∃ z, bsC ++ encBody t = z := ⟨_, rfl⟩
 rw [hbD] at HWN
 have HBD := Aside0.mk (show bsD = imgB t from by
  rw [← hbD, ← HBC.out, ← HBB.out, ← HBA.out, ← HCL.out]
  unfold imgB
  rw [HNN.out])
 have HLD := Aside0.mk (show bsD.length ≤ 60001000 from by rw [← hbD, List.length_append]; have := HLC.out; have := HN.out; have := HNN.out; omega)
 have HBY := Aside0.mk (show ∀ x ∈ bsD, 0 ≤ x ∧ x ≤ 255 from by rw [HBD.out]; exact imgB_bytes t)
 clear HP3 hbD b1 b2 HW2 HH hcell3 hfr3 HKW
 generalize w3.setCell ⟨K0 + 1, 0, none⟩ (.slice A3 n3 c3) = w9 at *
 obtain ⟨A9, c9, h9, hc9, hC9⟩ := Kd.R_reads HWN.out.row
 injection h9 with h9a h9b h9c
 subst h9a h9c
 have HC9 := Aside0.mk hC9
 have HCL9 := Aside0.mk hc9
 have HN9 := Aside0.mk h9b
 have b2 := (cells_box (cs := [.slice A3 n3 c3]) HWN.out.box) 0 _ rfl
 rw [add_z] at b2
 clear hC9 hc9 h9b
 go_wp2_with fail
 refine (crc_calls bsD (slice_one (heap_alloc_new w9 (.cells #[.slice A3 n3 c3] 34)) HN9.out (Kd.C_below HC9.out (below_a _ _)) HCL9.out) HBY.out (by have := HLD.out; omega)).mono ?_
 rintro e w10 ⟨rfl, B10⟩
 have HWM := Aside0.mk ((HWN.out.new (.cells #[.slice A3 n3 c3] 34)).below B10)
 replace HK := Aside0.mk (HK.out.trans ((Wr.new HWN.out (.cells #[.slice A3 n3 c3] 34)).kp.low.trans (B10.mono (HWN.out.new (.cells #[.slice A3 n3 c3] 34)).base)))
 have hcb := crcL_bd bsD
 obtain ⟨sm, hsm⟩ : ∃ z, crcL bsD = z := ⟨_, rfl⟩
 rw [hsm] at hcb ⊢
 have HSM := Aside0.mk hsm
 have hs0 := hcb.1
 have hs1 := hcb.2
 have HCB := Aside0.mk hcb
 clear B10 hsm hcb b2 HC9 HCL9
 go_wp2_with fail
 refine (put_calls (K0 + 1) K0 (.slice A3 n3 c3) bsD 2 (some ⟨w10.heap.size, 0, none⟩) 1 [sm] (w10.alloc (.cells #[.int .u64 sm] 62)) (HWM.out.new _) (by omega) (by omega) (kept_new (k := .u64) (cs := [sm]) HWM.out rfl (by simp)) (by simp) (by simp; have := HCB.out; omega) (by simp only [List.length_cons, List.length_nil]; have := HLD.out; omega)).mono ?_
 rintro e w11 ⟨v11, rfl, W1, R1⟩
 rw [flat_one] at W1
 replace HK := Aside0.mk (HK.out.trans ((Wr.new HWM.out (.cells #[.int .u64 sm] 62)).trans R1 HWM.out.base).kp.low)
 have HF := Aside0.mk (show bsD ++ leN 2 sm = encL t from by rw [HL.out]; unfold imgL; rw [← HSM.out, HBD.out])
 rw [HF.out] at W1
 have HW11 := Aside0.mk W1
 obtain ⟨A11, n11, c11, hv11⟩ : ∃ A n c, v11 = .slice A n c := (by obtain ⟨A, c, h⟩ := Kd.R_slice W1.row; exact ⟨A, _, c, h⟩)
 subst hv11
 have b2 := (cells_box (cs := [.slice A11 n11 c11]) HW11.out.box) 0 _ rfl
 rw [add_z] at b2
 clear W1 R1 hs0 hs1
 go_wp2_with fail
 go_ret2
 exact ⟨_, ret2_e HEE.out, Kd.R_lower HW11.out.row (by have := HB.out.size; have := HK0.out; omega), HB.out.trans (by have h := HK.out; have := HK0.out; have h2 := HB.out.size; exact h.mono (by omega))⟩
end Go.Proofs.Ytbgcemijihpakaa.XA
