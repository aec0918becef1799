/- image's reader: taken, rows with lists. -/
import Derived.Test.YtbgcemijihpakaaG31
import Derived.Defers
import Derived.Recover
import Derived.Test.YtbgcemijihpakaaG23
section
namespace Go.Proofs.Ytbgcemijihpakaa.XA
set_option linter.unusedVariables false
set_option linter.unusedSimpArgs false
open Go.RowKit Go.WideMaps Go.Maps Go.Proofs.YtbgcemijihpakaaW.PrintWords Go.Proofs.YtbgcemijihpakaaW.PrintLast Go.Proofs.YtbgcemijihpakaaW.PrintMore
theorem inf107 : (Try.prog.info? 107).map (fun i => (i.zero, i.size, i.bytes)) = some (some (.agg #[(.int .i64 0), (.int .i64 0), (.slice none 0 0)]), 3, 40) := by kernel_rfl
set_option maxRecDepth 1000000 in
set_option maxHeartbeats 4000000 in
theorem taken_107 (B base g n : Nat) (bs : List Int) (w : World) (h : RdSt w base B bs) (hb : ∀ x ∈ bs, 0 ≤ x ∧ x ≤ 255) (hx : RBox w g B) (hn : n ≤ 65535) :
    Calls Try.prog 48 #[.int .i64 n, .func (.func 49) #[] #[.pointer (some ⟨g, 0, none⟩)]] w fun e w' => Got (pReps pIsr n bs) (isRows k107 107 w.heap.size) base B w e w' := by
  have hgB : g ≠ B := by
    rintro rfl
    obtain ⟨A, c, h1, _⟩ := h
    unfold RBox at hx
    rw [h1] at hx
    injection hx with hx
    injection hx with _ hx _
    cases hx
  have HGB := Aside0.mk hgB
  have HGL := Aside0.mk (blk_lt hx)
  have HLT := Aside0.mk (rd_lt h)
  have HK0 := Aside0.mk (show KSt k107 107 pIsr w w base B g n bs (.slice none 0 0) [] bs n from ⟨Kd.R_nil _ _ _ _ _, h, only_refl _ _, hb, (pre_nil _).symm, by simp, hx⟩)
  have HN := Aside0.mk hn
  clear h hb hx hgB hn
  go_enter Try.func48, Try.ntmps48
  go_wp2_with fail
  go_loopg [5, 7] n (fun gg s5 s7 wr => ∃ (m k : Nat) (A : Option Addr) (q c : Nat) (xs : List S107) (r : List Int), m = gg ∧ s5 = .slice A q c ∧ s7 = .int .i64 (k : Int) ∧ k + m = n ∧ Aside0 (KSt k107 107 pIsr w wr base B g n bs (.slice A q c) xs r m))
  case atStart => exact ⟨_, 0, none, 0, 0, [], bs, rfl, rfl, rfl, by omega, HK0⟩
  case round =>
    obtain ⟨m, k, A, q, c, xs, r, rfl, rfl, rfl, hkm, HL⟩ := hrel
    rcases m with _ | m
    · have HP2 := Aside0.mk (show pReps pIsr n bs = .ok (xs, r) by rw [HL.out.eq, pre_done])
      obtain rfl : k = n := by omega
      have hd : decide ((k : Int) < (k : Int)) = false := decide_eq_false (by omega)
      go_wp2_with fail
      go_ret
      exact Got.mk_yes HP2.out HL.out.only _ rfl HL.out.row HL.out.st HL.out.bd
    · have hkn : k < n := by omega
      have hd : decide ((k : Int) < (n : Int)) = true := decide_eq_true (by omega)
      have hn5 := HN.out
      rcases hp2 : pIsr r with c2 | ⟨x2, r2⟩
      · have HP2 := Aside0.mk (show pReps pIsr n bs = .error c2 by rw [HL.out.eq, pre_fail m xs hp2])
        have HQ2 := Aside0.mk hp2
        clear hp2
        go_wp2_with fail
        refine (isr_calls B base g r wr HL.out.st HL.out.bd HL.out.box).mono ?_
        rintro e w2 hg
        obtain ⟨O2, rfl⟩ := hg.no HQ2.out
        exact ⟨rfl, Got.mk_no HP2.out (only_trans HL.out.only O2) rfl⟩
      · have HQ2 := Aside0.mk hp2
        clear hp2
        go_wp2_with fail
        refine (isr_calls B base g r wr HL.out.st HL.out.bd HL.out.box).mono ?_
        rintro e w2 hg
        obtain ⟨O2, v2, rfl, hV, S2, b2⟩ := hg.yes HQ2.out
        obtain ⟨Ao, co, hv2, hVo⟩ := hV
        cases hv2
        have HWS := Aside0.mk HL.out.only.size
        have HVo := Aside0.mk (Kd.R_mono (ok' := fun q => wr.heap.size ≤ q) (Kd.R_lower (Kd.R_bound hVo) HWS.out) (fun _ hk => hk.2.1))
        have HLo := Aside0.mk (fun (b : Nat) (hb : (Value.slice A q c).ownBlock = some b) => Kd.R_lt HL.out.row b hb)
        clear hVo
        have HR2 := Aside0.mk (R_only HL.out.row O2 HLT.out)
        have HS2 := Aside0.mk S2
        have HB2 := Aside0.mk b2
        have HO2 := Aside0.mk (only_trans HL.out.only O2)
        have HX2 := Aside0.mk (HL.out.box.only O2 HGB.out)
        have HN2 := Aside0.mk (show xs.length + (m + 1) = n from HL.out.len)
        have HE2 := Aside0.mk (HL.out.eq.trans (pre_step m xs HQ2.out))
        clear hg O2 S2 b2 HL
        go_wp2_with ((with_reducible refine gate_builtin (b := .append) (xs := #[.tmp 9, .tmp 12]) rfl ?_); at_builtin; refine Kd.R_append k107 (w0 := w2) w.heap.size rfl (.tmp 9) (.tmp 12) 30 107 (.agg #[(.int .i64 0), (.int .i64 0), (.slice none 0 0)]) 40 rfl Try.underlying30 inf107 rfl (by decide) (by omega) _ xs x2 [.int .i64 x2.f0, .int .i64 x2.f1, .slice Ao x2.f2.length co] (fun _ => True) (fun q => wr.heap.size ≤ q) rfl rfl (k107_mkM _ _ _ x2 HVo.out) (fun q hq => ⟨trivial, fun e => by have := HLo.out q e.symm; omega⟩) (fun _ _ => trivial) HR2.out (Below.refl _ _) HO2.out.size ?aL ?_; (case aL => have := HN2.out; have := HN.out; omega); intro v3 w3 HR3 HB3 HG3 HA3; obtain ⟨A3, n3, c3, hv3⟩ : ∃ A n c, v3 = .slice A n c := (by obtain ⟨A, c, h⟩ := Kd.R_slice HR3; exact ⟨A, _, c, h⟩); subst hv3; have HRR := Aside0.mk HR3; have HGG := Aside0.mk HG3; clear HR3 HB3 HG3 HA3)
        have HFR := Aside0.mk (show ∀ k, (Value.slice A q c).ownBlock = some k → w.heap.size ≤ k from fun k hk => by
          obtain ⟨_, inner, ho, _⟩ := HR2.out
          exact own_base ho k hk)
        have HL3 := Aside0.mk (show KSt k107 107 pIsr w w3 base B g n bs (.slice A3 n3 c3) (xs ++ [x2]) r2 m from
          ⟨HRR.out, HS2.out.grown HGG.out (own3 HR2.out (by decide) (by decide)), only_grown HO2.out HGG.out HFR.out, HB2.out, HE2.out, by have := HN2.out; simp; omega,
           HX2.out.grown HGG.out (fun he => by have := HFR.out _ he.symm; have := HGL.out; omega)⟩)
        go_roundg m
        case measure => omega
        case rel => exact ⟨m, k + 1, A3, n3, c3, _, r2, rfl, rfl, by simp, by omega, HL3⟩
theorem inf69 : (Try.prog.info? 69).map (fun i => (i.zero, i.size, i.bytes)) = some (some (.agg #[(.int .i64 0), (.int .i64 0), (.bool false), (.int .i64 0), (.int .u32 0), (.int .i64 0), (.slice none 0 0), (.int .u32 0)]), 8, 80) := by kernel_rfl
set_option maxRecDepth 1000000 in
set_option maxHeartbeats 4000000 in
theorem taken_69 (B base g n : Nat) (bs : List Int) (w : World) (h : RdSt w base B bs) (hb : ∀ x ∈ bs, 0 ≤ x ∧ x ≤ 255) (hx : RBox w g B) (hn : n ≤ 65535) :
    Calls Try.prog 36 #[.int .i64 n, .func (.func 37) #[.agg #[.pointer (some ⟨B, 0, none⟩)]] #[]] w fun e w' => Got (pReps pTask n bs) (isRows k69 69 w.heap.size) base B w e w' := by
  have hgB : g ≠ B := by
    rintro rfl
    obtain ⟨A, c, h1, _⟩ := h
    unfold RBox at hx
    rw [h1] at hx
    injection hx with hx
    injection hx with _ hx _
    cases hx
  have HGB := Aside0.mk hgB
  have HGL := Aside0.mk (blk_lt hx)
  have HLT := Aside0.mk (rd_lt h)
  have HK0 := Aside0.mk (show KSt k69 69 pTask w w base B g n bs (.slice none 0 0) [] bs n from ⟨Kd.R_nil _ _ _ _ _, h, only_refl _ _, hb, (pre_nil _).symm, by simp, hx⟩)
  have HN := Aside0.mk hn
  clear h hb hx hgB hn
  go_enter Try.func36, Try.ntmps36
  go_wp2_with fail
  go_loopg [5, 7] n (fun gg s5 s7 wr => ∃ (m k : Nat) (A : Option Addr) (q c : Nat) (xs : List S69) (r : List Int), m = gg ∧ s5 = .slice A q c ∧ s7 = .int .i64 (k : Int) ∧ k + m = n ∧ Aside0 (KSt k69 69 pTask w wr base B g n bs (.slice A q c) xs r m))
  case atStart => exact ⟨_, 0, none, 0, 0, [], bs, rfl, rfl, rfl, by omega, HK0⟩
  case round =>
    obtain ⟨m, k, A, q, c, xs, r, rfl, rfl, rfl, hkm, HL⟩ := hrel
    rcases m with _ | m
    · have HP2 := Aside0.mk (show pReps pTask n bs = .ok (xs, r) by rw [HL.out.eq, pre_done])
      obtain rfl : k = n := by omega
      have hd : decide ((k : Int) < (k : Int)) = false := decide_eq_false (by omega)
      go_wp2_with fail
      go_ret
      exact Got.mk_yes HP2.out HL.out.only _ rfl HL.out.row HL.out.st HL.out.bd
    · have hkn : k < n := by omega
      have hd : decide ((k : Int) < (n : Int)) = true := decide_eq_true (by omega)
      have hn5 := HN.out
      rcases hp2 : pTask r with c2 | ⟨x2, r2⟩
      · have HP2 := Aside0.mk (show pReps pTask n bs = .error c2 by rw [HL.out.eq, pre_fail m xs hp2])
        have HQ2 := Aside0.mk hp2
        clear hp2
        go_wp2_with fail
        refine (task_calls B base r wr HL.out.st HL.out.bd).mono ?_
        rintro e w2 hg
        obtain ⟨O2, rfl⟩ := hg.no HQ2.out
        exact ⟨rfl, Got.mk_no HP2.out (only_trans HL.out.only O2) rfl⟩
      · have HQ2 := Aside0.mk hp2
        clear hp2
        go_wp2_with fail
        refine (task_calls B base r wr HL.out.st HL.out.bd).mono ?_
        rintro e w2 hg
        obtain ⟨O2, v2, rfl, hV, S2, b2⟩ := hg.yes HQ2.out
        obtain ⟨Ao, co, hv2, hVo⟩ := hV
        cases hv2
        have HWS := Aside0.mk HL.out.only.size
        have HVo := Aside0.mk (Kd.R_mono (ok' := fun q => wr.heap.size ≤ q) (Kd.R_lower (Kd.R_bound hVo) HWS.out) (fun _ hk => hk.2.1))
        have HLo := Aside0.mk (fun (b : Nat) (hb : (Value.slice A q c).ownBlock = some b) => Kd.R_lt HL.out.row b hb)
        clear hVo
        have HR2 := Aside0.mk (R_only HL.out.row O2 HLT.out)
        have HS2 := Aside0.mk S2
        have HB2 := Aside0.mk b2
        have HO2 := Aside0.mk (only_trans HL.out.only O2)
        have HX2 := Aside0.mk (HL.out.box.only O2 HGB.out)
        have HN2 := Aside0.mk (show xs.length + (m + 1) = n from HL.out.len)
        have HE2 := Aside0.mk (HL.out.eq.trans (pre_step m xs HQ2.out))
        clear hg O2 S2 b2 HL
        go_wp2_with ((with_reducible refine gate_builtin (b := .append) (xs := #[.tmp 9, .tmp 12]) rfl ?_); at_builtin; refine Kd.R_append k69 (w0 := w2) w.heap.size rfl (.tmp 9) (.tmp 12) 25 69 (.agg #[(.int .i64 0), (.int .i64 0), (.bool false), (.int .i64 0), (.int .u32 0), (.int .i64 0), (.slice none 0 0), (.int .u32 0)]) 80 rfl Try.underlying25 inf69 rfl (by decide) (by omega) _ xs x2 [.int .i64 x2.f0, .int .i64 x2.f1, .bool x2.f2, .int .i64 x2.f3, .int .u32 x2.f4, .int .i64 x2.f5, .slice Ao x2.f6.length co, .int .u32 x2.f7] (fun _ => True) (fun q => wr.heap.size ≤ q) rfl rfl (k69_mkM _ _ _ x2 HVo.out) (fun q hq => ⟨trivial, fun e => by have := HLo.out q e.symm; omega⟩) (fun _ _ => trivial) HR2.out (Below.refl _ _) HO2.out.size ?aL ?_; (case aL => have := HN2.out; have := HN.out; omega); intro v3 w3 HR3 HB3 HG3 HA3; obtain ⟨A3, n3, c3, hv3⟩ : ∃ A n c, v3 = .slice A n c := (by obtain ⟨A, c, h⟩ := Kd.R_slice HR3; exact ⟨A, _, c, h⟩); subst hv3; have HRR := Aside0.mk HR3; have HGG := Aside0.mk HG3; clear HR3 HB3 HG3 HA3)
        have HFR := Aside0.mk (show ∀ k, (Value.slice A q c).ownBlock = some k → w.heap.size ≤ k from fun k hk => by
          obtain ⟨_, inner, ho, _⟩ := HR2.out
          exact own_base ho k hk)
        have HL3 := Aside0.mk (show KSt k69 69 pTask w w3 base B g n bs (.slice A3 n3 c3) (xs ++ [x2]) r2 m from
          ⟨HRR.out, HS2.out.grown HGG.out (own3 HR2.out (by decide) (by decide)), only_grown HO2.out HGG.out HFR.out, HB2.out, HE2.out, by have := HN2.out; simp; omega,
           HX2.out.grown HGG.out (fun he => by have := HFR.out _ he.symm; have := HGL.out; omega)⟩)
        go_roundg m
        case measure => omega
        case rel => exact ⟨m, k + 1, A3, n3, c3, _, r2, rfl, rfl, by simp, by omega, HL3⟩
end Go.Proofs.Ytbgcemijihpakaa.XA
end
section
namespace Go.Proofs.Ytbgcemijihpakaa.XA
set_option linter.unusedVariables false
set_option linter.unusedSimpArgs false
open Go.RowKit Go.WideMaps Go.Maps Go.Proofs.YtbgcemijihpakaaW.PrintWords Go.Proofs.YtbgcemijihpakaaW.PrintLast Go.Proofs.YtbgcemijihpakaaW.PrintMore
abbrev z33A : Array Value := #[.int .i64 0, .int .i64 0, .slice none 0 0, .slice none 0 0, .slice none 0 0, .slice none 0 0, .slice none 0 0, .slice none 0 0, .slice none 0 0, .int .i64 0, .int .i64 0, .int .i64 0, .int .i64 0]
/-- two blocks may have turned, and new ones have come -/
structure Swept (w w' : World) (g2 g3 : Nat) : Prop where
 os : w'.os = w.os
 tape : w'.tape = w.tape
 output : w'.output = w.output
 size : w.heap.size ≤ w'.heap.size
 block : ∀ k, k < w.heap.size → k ≠ g2 → k ≠ g3 → w'.heap[k]? = w.heap[k]?
theorem cell_row_other (w : World) (g p : Nat) (cs : Array Value) (h : p ≠ g) : (w.setRow g cs).cell? ⟨p, 0, none⟩ = w.cell? ⟨p, 0, none⟩ := by simp only [World.cell?, setRow_other w g p cs h]
set_option maxRecDepth 1000000 in
set_option maxHeartbeats 4000000 in
theorem catch_idle (g2 g3 : Nat) (w : World) :
  CallsD Try.prog 29 #[.pointer (some ⟨g2, 0, none⟩), .pointer (some ⟨g3, 0, none⟩)] .returning w fun e u' w' => e = .returned (.tuple #[]) ∧ u' = .returning ∧ w' = w := by
 refine callsD_of_wpS Try.func29 rfl fun c₀ cs hu => ?_
 simp only [Try.ntmps29, List.size_toArray, List.length_cons, List.length_nil, Nat.reduceAdd, Nat.reduceSub, Array.replicate_succ, Array.replicate_zero, List.push_toArray, List.append_toArray, List.nil_append, List.cons_append]
 apply wpS_seq
 apply wpS_region
 simp [wpOpsS, go_sem, recoverD, hu, Try.ntmps29, Exit.thenS]
 apply wpS_seq
 apply wpS_region
 simp [wpOpsS, go_sem, Exit.thenS]
 refine wpS_cond (t := false) (by simp [Act.eval, Array.replicate]) ?_
 simp only [Bool.false_eq_true, if_false]
 refine wpS_of_wp (wp_skip ?_)
 cases c₀
 simp_all [bodyPostS, results, Try.results29]
set_option maxRecDepth 1000000 in
set_option maxHeartbeats 4000000 in
theorem catch_panics (g2 g3 : Nat) (c : Int) (z : Array Value) (w : World) (h2 : ZBox w g2 z 33) (hz : z.size = 13) (h3 : ZBox w g3 #[.int .i64 0] 23) :
  CallsD Try.prog 29 #[.pointer (some ⟨g2, 0, none⟩), .pointer (some ⟨g3, 0, none⟩)] (.panicking (Ref c)) w fun e u' w' => e = .returned (.tuple #[]) ∧ settle u' = .returning ∧ ZBox w' g2 z33A 33 ∧ ZBox w' g3 #[.int .i64 c] 23 ∧ Swept w w' g2 g3 := by
 refine callsD_of_wpS Try.func29 rfl fun c₀ cs hu => ?_
 simp only [Try.ntmps29, List.size_toArray, List.length_cons, List.length_nil, Nat.reduceAdd, Nat.reduceSub, Array.replicate_succ, Array.replicate_zero, List.push_toArray, List.append_toArray, List.nil_append, List.cons_append]
 apply wpS_seq
 apply wpS_region
 simp [wpOpsS, go_sem, recoverD, hu, Try.ntmps29, Exit.thenS, Ref]
 apply wpS_seq
 apply wpS_region
 simp [wpOpsS, go_sem, Exit.thenS]
 refine wpS_cond (t := true) (by simp [Act.eval, Array.replicate]) ?_
 simp only [if_true]
 refine wpS_of_wp ?_
 have hta : ∀ W, (Instr.typeAssert (.iface 73 (.agg #[.int .i64 c])) 20 73 true).run Try.prog W = .ok (.tuple #[.agg #[.int .i64 c], .bool true]) W := fun _ => by kernel_rfl
 go_upto_region 5 with fail
 have hg2 : g2 < w.heap.size := blk_lt h2
 have hg3 : g3 < w.heap.size := blk_lt h3
 have hne : g2 ≠ g3 := by
  rintro rfl
  unfold ZBox at h2 h3
  rw [h2] at h3
  injection h3 with h3
  injection h3 with _ h3 _
  cases h3
 have HB := Aside0.mk (below_a w (.cells #[.int .i64 c] 73))
 have HZ2 := Aside0.mk (h2.below HB.out)
 have HZ3 := Aside0.mk (h3.below HB.out)
 have hcc : (w.alloc (.cells #[.int .i64 c] 73)).cell? ⟨w.heap.size, 0, none⟩ = some (.int .i64 c) := by simp [go_sem]
 have HC := Aside0.mk hcc
 have HSZ := Aside0.mk hz
 have HG2 := Aside0.mk hg2
 have HG3 := Aside0.mk hg3
 have HNE := Aside0.mk hne
 have HU := Aside0.mk hu
 clear h2 h3 hcc hz hg2 hg3 hne hta hu
 generalize w.alloc (.cells #[.int .i64 c] 73) = wa at *
 refine start_ (n := 5) (S := fun w_ => w_.cell? ⟨w.heap.size, 0, none⟩ = some (.int .i64 c)) (ds := [4]) #[false, false, false, false, false] (by kernel_rfl) rfl rfl HC.out (fun hHeld => ?_)
 have HD := Aside0.mk (drew_below wa)
 have HHC := Aside0.mk hHeld
 clear hHeld
 replace HZ2 := Aside0.mk (HZ2.out.below HD.out)
 replace HZ3 := Aside0.mk (HZ3.out.below HD.out)
 replace HB := Aside0.mk (HB.out.trans (HD.out.mono HB.out.size))
 clear HD HC
 generalize wa.drew = wv at *
 refine pure_ (i := 0) (N := some 16) (v := .agg z33A) (a' := ?_) #[true, false, false, false, false] rfl rfl (by kernel_rfl) (fun _ _ _ h => h) (Or.inl ⟨by rfl, ?_⟩) ?_ ?_
 ·intro w_
  kernel_rfl
 rotate_left
 ·simp only [Act.put, List.setIfInBounds_toArray, List.set_cons_zero, List.set_cons_succ]
  rfl
 refine pure_ (i := 1) (N := some 17) (v := ?_) (a' := ?_) #[true, true, false, false, false] rfl rfl (by kernel_rfl) (fun _ _ _ h => h) (Or.inl ⟨by rfl, ?_⟩) ?_ ?_
 rotate_left
 ·intro w_
  go_simp
  with_reducible rfl
 rotate_left
 ·simp only [Act.put, List.setIfInBounds_toArray, List.set_cons_zero, List.set_cons_succ]
  rfl
 refine take_ (i := 2) (N := some 18) (v := .int .i64 c) (a' := ?_) #[true, true, true, false, false] rfl rfl (by kernel_rfl) (fun _ _ _ h => h) (Or.inl ⟨by rfl, ?_⟩) HHC.out ?_ ?_
 ·rintro w_ s
  go_simp
 rotate_left
 ·simp only [Act.put, List.setIfInBounds_toArray, List.set_cons_zero, List.set_cons_succ]
  rfl
 refine one_ (i := 3) (N := none) #[true, true, true, true, false] rfl rfl (by kernel_rfl) (by decide) (fun K hK => ?_)
 rw [if_pos (by rfl)]
 refine wp_store_row 33 (.tmp 0) (.tmp 16) rfl g2 z33A rfl rfl 33 z HZ2.out (by kernel_rfl) HSZ.out (by simp [Value.oneCell']) ?_
 refine hK.out _ _ ((cell_row_other wv g2 w.heap.size z33A (by have := HG2.out; omega)).trans HHC.out) (fun _ => ?_)
 clear hK K
 have HZ4 := Aside0.mk (ZBox.row HZ2.out z33A)
 have HZ5 := Aside0.mk (show ZBox (wv.setRow g2 z33A) g3 #[.int .i64 0] 23 from (setRow_other wv g2 g3 z33A (fun h => HNE.out h.symm)).trans HZ3.out)
 have HK5 := Aside0.mk (show ∀ k, k < w.heap.size → k ≠ g2 → (wv.setRow g2 z33A).heap[k]? = w.heap[k]? from fun k hk h => (setRow_other wv g2 k z33A h).trans (HB.out.block k hk))
 have HM := Aside0.mk (show (wv.setRow g2 z33A).os = w.os ∧ (wv.setRow g2 z33A).tape = w.tape ∧ (wv.setRow g2 z33A).output = w.output ∧ w.heap.size ≤ (wv.setRow g2 z33A).heap.size from ⟨HB.out.os, HB.out.tape, HB.out.output, by rw [setRow_size]; exact HB.out.size⟩)
 generalize wv.setRow g2 z33A = wx at *
 refine last_ (i := 4) (N := none) #[true, true, true, true, true] rfl rfl (by kernel_rfl) (by decide) (fun K hK => ?_)
 have c5 := HZ5.out.at 0 _ rfl
 have f5 : wx.frozen? ⟨g3, 0, none⟩ = false := by have := HZ5.out; unfold ZBox at this; simp [World.frozen?, this]
 go_simp
 refine hK.out _ _ ?_
 clear hK K c5 f5
 refine done_ (by kernel_rfl) ?_
 have e := setCell_eq_setRow wx g3 0 #[.int .i64 0] 23 (0, 0) (.int .i64 c) HZ5.out
 rw [e]
 have HZ6 : ZBox (wx.setRow g3 #[.int .i64 c]) g3 #[.int .i64 c] 23 := ZBox.row HZ5.out _
 have HZ7 : ZBox (wx.setRow g3 #[.int .i64 c]) g2 z33A 33 := (setRow_other wx g3 g2 _ HNE.out).trans HZ4.out
 have HK7 : ∀ k, k < w.heap.size → k ≠ g2 → k ≠ g3 → (wx.setRow g3 #[.int .i64 c]).heap[k]? = w.heap[k]? := fun k hk h2 h3 => (setRow_other wx g3 k _ h3).trans (HK5.out k hk h2)
 refine ⟨rfl, _, rfl, .tuple #[], results_none rfl _ _ _, rfl, rfl, HZ7, HZ6, ?_⟩
 have hm := HM.out
 exact ⟨hm.1, hm.2.1, hm.2.2.1, by rw [setRow_size]; exact hm.2.2.2, HK7⟩
end Go.Proofs.Ytbgcemijihpakaa.XA
end
section
namespace Go.Proofs.Ytbgcemijihpakaa.XA
set_option linter.unusedVariables false
set_option linter.unusedSimpArgs false
open Go.RowKit Go.WideMaps Go.Maps Go.Proofs.YtbgcemijihpakaaW.PrintWords Go.Proofs.YtbgcemijihpakaaW.PrintLast Go.Proofs.YtbgcemijihpakaaW.PrintMore
/-- the head behind the magic: the length, the counts, the six numbers -/
structure HeadP where
 size : Int
 ns : List Int
 uses : Int
 modes : Int
 depth : Int
 frames : Int
 errors : Int
 calls : Int
def pSix (s : Int) (ns : List Int) : Rd HeadP := pBind (pGet 1) fun a => pBind (pGet 1) fun b => pBind (pGet 1) fun c => pBind (pGet 1) fun d => pBind (pGet 1) fun e => pBind (pGet 1) fun f => pRet ⟨s, ns, a, b, c, d, e, f⟩
def cntP (ns : List Int) (i : Nat) : Nat := (ns.getD i 0).toNat
/-- the rows -/
def pRows (h : HeadP) : Rd S33 :=
 pBind (pReps pTask (cntP h.ns 0)) fun t2 => pBind (pReps pRing (cntP h.ns 1)) fun t3 => pBind (pReps pRes (cntP h.ns 2)) fun t4 => pBind (pReps pCtr (cntP h.ns 3)) fun t5 =>
 pBind (pReps pAlm (cntP h.ns 4)) fun t6 => pBind (pReps pIsr (cntP h.ns 5)) fun t7 => pBind (pReps pMsg (cntP h.ns 6)) fun t8 =>
 pRet ⟨h.uses, h.modes, t2, t3, t4, t5, t6, t7, t8, h.depth, h.frames, h.errors, h.calls⟩
/-- what Decode's checks and readings say: a table, or the code of the refusal -/
def imgP (b : List Int) : Except Int S33 :=
 if b.length < 4 ∨ b.take 4 ≠ [84, 80, 84, 49] then .error 100
 else if b.length < 30 then .error 101
 else match pGet 4 ((b.take 28).drop 4) with
  | .error c => .error c
  | .ok (s, h1) =>
   if s ≠ (b.length : Int) then .error 101
   else if leVal (b.drop (b.length - 2)) ≠ crcL (b.take (b.length - 2)) then .error 102
   else match pReps (pGet 2) 7 h1 with
    | .error c => .error c
    | .ok (ns, h2) => match pSix s ns h2 with
     | .error c => .error c
     | .ok (h, _) => match pRows h ((b.take (b.length - 2)).drop 28) with
      | .error c => .error c
      | .ok (t, r) => if 0 < r.length then .error 101 else if tabE t = 0 then .ok t else .error 90
end Go.Proofs.Ytbgcemijihpakaa.XA
end
section
namespace Go.Proofs.Ytbgcemijihpakaa.XA
set_option linter.unusedVariables false
set_option linter.unusedSimpArgs false
open Go.RowKit Go.WideMaps Go.Maps Go.Proofs.YtbgcemijihpakaaW.PrintWords Go.Proofs.YtbgcemijihpakaaW.PrintLast Go.Proofs.YtbgcemijihpakaaW.PrintMore
/-- the two results' boxes stand; what was there stays -/
structure Dr (w wp : World) (z : Array Value) : Prop where
 low : Below w.heap.size w wp
 b2 : ZBox wp w.heap.size z 33
 sz : z.size = 13
 b3 : ZBox wp (w.heap.size + 1) #[.int .i64 0] 23
/-- the rows that were read, new ones -/
structure DecRows (base : Nat) (w : World) (V : TV) (t : S33) : Prop where
 tk : k69.R 69 w base (fun _ => True) (.slice V.a2 t.f2.length V.k2) t.f2
 rg : k88.R 88 w base (fun _ => True) (.slice V.a3 t.f3.length V.k3) t.f3
 rs : k66.R 66 w base (fun _ => True) (.slice V.a4 t.f4.length V.k4) t.f4
 ct : k95.R 95 w base (fun _ => True) (.slice V.a5 t.f5.length V.k5) t.f5
 al : k102.R 102 w base (fun _ => True) (.slice V.a6 t.f6.length V.k6) t.f6
 ir : k107.R 107 w base (fun _ => True) (.slice V.a7 t.f7.length V.k7) t.f7
 mg : k113.R 113 w base (fun _ => True) (.slice V.a8 t.f8.length V.k8) t.f8
/-- what Decode answers -/
def DecOut (b : List Int) (w : World) (e : Ending) (w' : World) : Prop :=
 Below w.heap.size w w' ∧ match imgP b with
  | .error c => e = .returned (.tuple #[.agg z33A, .int .i64 c])
  | .ok t => ∃ V, e = .returned (.tuple #[.agg (arr V t), .int .i64 0]) ∧ DecRows w.heap.size w' V t
theorem DecOut.no {b : List Int} {w w' : World} {e : Ending} {c : Int} (h : imgP b = .error c) (hb : Below w.heap.size w w') (he : e = .returned (.tuple #[.agg z33A, .int .i64 c])) : DecOut b w e w' := by
 unfold DecOut
 rw [h]
 exact ⟨hb, he⟩
theorem results11 {tmps : Array Value} {w : World} {g2 g3 : Nat} {z : Array Value} {c : Int} (h2 : tmps.getD 2 undef = .pointer (some ⟨g2, 0, none⟩)) (h3 : tmps.getD 3 undef = .pointer (some ⟨g3, 0, none⟩)) (hz2 : ZBox w g2 z 33) (hz : z.size = 13) (hz3 : ZBox w g3 #[.int .i64 c] 23) :
  (results Try.f11 tmps).run Try.prog w = .ok (.tuple #[.agg z, .int .i64 c]) w := by
 have h2' : tmps[2]?.getD undef = .pointer (some ⟨g2, 0, none⟩) := by simpa using h2
 have h3' : tmps[3]?.getD undef = .pointer (some ⟨g3, 0, none⟩) := by simpa using h3
 have l2 := run_loadVar_row (P := Try.prog) w g2 33 33 z (0, 0) _ hz2 Try.underlying33 rfl (by rw [hz]; kernel_rfl)
 have c3 : w.cell? ⟨g3, 0, none⟩ = some (.int .i64 c) := hz3.at 0 _ rfl
 have l3 : (loadVar 23 ⟨g3, 0, none⟩).run Try.prog w = .ok (.int .i64 c) w := by simp [go_sem, c3]
 simp only [results, Try.results11]
 simp [Sem.run_bind, Result.andThen, asAddr, h2', h3', l2, l3]
/-- the deferred call behind a refusal -/
theorem door_no {b : List Int} {w wp : World} {z tmps : Array Value} {c : Int} (h : imgP b = .error c) (hd : Dr w wp z) (h2 : tmps.getD 2 undef = .pointer (some ⟨w.heap.size, 0, none⟩)) (h3 : tmps.getD 3 undef = .pointer (some ⟨w.heap.size + 1, 0, none⟩)) :
  Leaves Try.prog Try.f11 tmps (DecOut b w) [{ target := .fn (.func 29) #[.pointer (some ⟨w.heap.size, 0, none⟩), .pointer (some ⟨w.heap.size + 1, 0, none⟩)], args := #[] }] (.panicking (Ref c)) wp := by
 refine leaves_cons (f := 29) (args := #[.pointer (some ⟨w.heap.size, 0, none⟩), .pointer (some ⟨w.heap.size + 1, 0, none⟩)]) (by simp) (by simp [go_sem]) ?_
 refine (catch_panics w.heap.size (w.heap.size + 1) c z wp hd.b2 hd.sz hd.b3).mono ?_
 rintro e u' w'' ⟨rfl, hs, z2, z3, sw⟩
 simp only [hs]
 have hsz := hd.low.size
 refine ⟨_, results11 h2 h3 z2 rfl z3, DecOut.no h ⟨sw.os.trans hd.low.os, sw.tape.trans hd.low.tape, sw.output.trans hd.low.output, Nat.le_trans hsz sw.size, fun k hk => (sw.block k (by omega) (by omega) (by omega)).trans (hd.low.block k hk)⟩ rfl⟩
theorem door_yes {b : List Int} {w wp : World} {z tmps : Array Value} {t : S33} {V : TV} (h : imgP b = .ok t) (hd : Dr w wp z) (hz : z = arr V t) (hr : DecRows w.heap.size wp V t) (h2 : tmps.getD 2 undef = .pointer (some ⟨w.heap.size, 0, none⟩)) (h3 : tmps.getD 3 undef = .pointer (some ⟨w.heap.size + 1, 0, none⟩)) :
  Leaves Try.prog Try.f11 tmps (DecOut b w) [{ target := .fn (.func 29) #[.pointer (some ⟨w.heap.size, 0, none⟩), .pointer (some ⟨w.heap.size + 1, 0, none⟩)], args := #[] }] .returning wp := by
 subst hz
 refine leaves_cons (f := 29) (args := #[.pointer (some ⟨w.heap.size, 0, none⟩), .pointer (some ⟨w.heap.size + 1, 0, none⟩)]) (by simp) (by simp [go_sem]) ?_
 refine (catch_idle w.heap.size (w.heap.size + 1) wp).mono ?_
 rintro e u' w'' ⟨rfl, rfl, rfl⟩
 refine ⟨_, results11 h2 h3 hd.b2 rfl hd.b3, hd.low, ?_⟩
 rw [h]
 exact ⟨V, rfl, hr⟩
end Go.Proofs.Ytbgcemijihpakaa.XA
end
section
namespace Go.Proofs.Ytbgcemijihpakaa.XA
set_option linter.unusedVariables false
set_option linter.unusedSimpArgs false
open Go.RowKit Go.WideMaps Go.Maps Go.Proofs.YtbgcemijihpakaaW.PrintWords Go.Proofs.YtbgcemijihpakaaW.PrintLast Go.Proofs.YtbgcemijihpakaaW.PrintMore
theorem leVal_range (x : Int) (h : 0 ≤ x) : ∀ n : Nat, leVal ((List.range n).map (fun i => x / 2 ^ (8 * i) % 256)) = x % 256 ^ n := by
 intro n
 induction n with
 | zero => simp [leVal, Int.emod_one]
 | succ n ih =>
  rw [List.range_succ, List.map_append, List.map_cons, List.map_nil, leVal_snoc, ih, List.length_map, List.length_range]
  have e : (2 : Int) ^ (8 * n) = 256 ^ n := by rw [Int.pow_mul]; rfl
  rw [e, Int.pow_succ]
  have hp : (0 : Int) < 256 ^ n := Int.pow_pos (by decide)
  generalize (256 : Int) ^ n = m at *
  rw [Int.emod_def x (m * 256), Int.emod_def x m, Int.emod_def (x / m) 256, Int.ediv_ediv_of_nonneg (by omega)]
  rw [Int.mul_sub]
  have : m * (256 * (x / (m * 256))) = m * 256 * (x / (m * 256)) := by rw [Int.mul_assoc]
  omega
theorem pGet_leN {n : Nat} {x : Int} (h : 0 ≤ x) (h1 : x < 256 ^ n) (r : List Int) : pGet n (leN n x ++ r) = .ok (x, r) := by
 have e : (2 : Int) ^ (8 * n) = 256 ^ n := by rw [Int.pow_mul]; rfl
 have hl : leN n x = (List.range n).map (fun i => x / 2 ^ (8 * i) % 256) := by
  unfold leN
  rw [if_pos (by rw [e]; exact Int.ediv_eq_zero_of_lt h h1)]
 have hn : (leN n x).length = n := by rw [hl]; simp
 unfold pGet
 rw [if_pos (by rw [List.length_append, hn]; omega), List.take_left' hn, List.drop_left' hn, hl, leVal_range x h n, Int.emod_eq_of_lt h h1]
theorem pReps_flat {α : Type} {p : Rd α} {en : α → List Int} (xs : List α) (r : List Int) (h : ∀ x ∈ xs, ∀ r, p (en x ++ r) = .ok (x, r)) : pReps p xs.length (xs.flatMap en ++ r) = .ok (xs, r) := by
 induction xs with
 | nil => rfl
 | cons x xs ih =>
  have h1 := h x (by simp) (xs.flatMap en ++ r)
  have h2 := ih (fun y hy => h y (by simp [hy]))
  simp only [List.flatMap_cons, List.append_assoc, List.length_cons, pReps, h1, h2]
end Go.Proofs.Ytbgcemijihpakaa.XA
end
